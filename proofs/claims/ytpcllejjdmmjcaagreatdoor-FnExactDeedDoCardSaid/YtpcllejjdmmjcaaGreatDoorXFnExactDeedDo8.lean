/- What the law FnExactDeedDo needs, part 9 of 15: the Lean functions of the Go functions that it reaches, with the proofs that the calls come to what they say, and plain facts about them. Conditions: those that each theorem states. Written by a session and by its programs (after the kit's printer). -/
import Derived.Test.YtpcllejjdmmjcaaGreatDoorXFnExactDeedDo7
open Option renaming bind → Ya
open Go.Proofs.Tryz renaming prog → Yb, f262 → Yi, func262 → Yj, f110 → Yp, f124 → Yq, f184 → Yr, f199 → Ys, f204 → Yt, f246 → Yu, f292 → Yv, f78 → Yw, func168 → Yx, func184 → Yy, func199 → Yz, func246 → Y0, func94 → Y1
open Go.IntKind renaming wrap → Yc, max → Yl
open Int renaming toNat → Yd, toNat_natCast → Yk
open List renaming set → Ye, mem_singleton → Yf, getElem?_eq_getElem → Ym, nodup_nil → Yn, replicate → Yo
open Nat renaming le_refl → Yg, mul_one → Yh
namespace Go.Proofs.Qz
open Go Go.RowKit
set_option linter.unusedVariables false
set_option linter.defProp false
def Zun (k:Nat) (a1:Str) (a2:Int):Option (Bool×Int×Str):=Ya (Zrl k a1) fun v3=>Ya (Zdc k (v3.1,(0,false))) fun v4=>Ya (Zdc k v4.2) fun v5=>Ya (Z5h k v5.2) fun v6=>bif v6.2.2.2||(a1==[]) then some (true,0,[]) else Ya (Zlm k v4.1 v5.1 v6.1) fun v7=>bif (!(v7==a1))||(v4.1 != a2) then some (true,0,[]) else some (false,v5.1,v6.1)
def Zun.con (k:Nat):Con:=Sig.con { ps:=[.val false .str (ros .str),.val false (.int .i64) (ros (.int .i64))],rs:=[.val true [.v .bool,.v (.int .i64),.v .str]],ntmps:=46 } (fun x=>Zun k x.1 x.2)
theorem Zun.ok (k:Nat):Ze Yb 287 (Zun.con k):=fA (cX (cC (Zrl.ok k) (cC (Zdc.ok k) (cC (Z5h.ok k) (cC (Zlm.ok k) cN))))) Tryz.func287
def Zli (k:Nat) (a1:G28) (a2:G46):Option (List Zmc):=Ya (Z2j a2) fun v3=>bif a2.1==2 then Ya (Zrf k a1 a2) fun v4=>some v4 else bif a2.1==3 then Ya (Z8e k a1 (4,(2,v3.2.2))) fun v5=>some v5 else bif a2.1==4 then bif a2.2.1==0 then Ya (Z3j a2) fun v6=>Ya (Z8e k a1 v6) fun v7=>some v7 else Ya (Z8e k a1 (v3.1,((Yc .i64 (a2.2.1-1)),v3.2.2))) fun v8=>some v8 else bif a2.1==5 then Ya (Ztb k a1.2 2) fun v9=>Ya (Zun k v9 a2.2.2.2.2.1) fun v10=>bif (v10.1||(decide (40≤a2.2.2.2.2.1)))||(decide (((a1.2.1.length):Int)≤v10.2.1)) then some ([]) else Ya (Z8e k a1 (v3.1,(v3.2.1,(v3.2.2.1,(v3.2.2.2.1,((Yc .i64 (a2.2.2.2.2.1+1)),v3.2.2.2.2.2)))))) fun v11=>Ya (Zt 32 ([v10,(true,(0,[]))]) v11) fun v12=>some v12 else some ([])
def Zli.con (k:Nat):Con:=Sig.con { ps:=[.val true T28 (ros T28),.val true T46 (ros T46)],rs:=[.val false [.own 151 Z6b]],ntmps:=76 } (fun x=>Zli k x.1 x.2)
theorem Zli.ok (k:Nat):Ze Yb 239 (Zli.con k):=fA (cXr true false (cC (Ztb.ok k) (cC (Z2j.ok k) (cC (Z8e.ok k) (cC (Z3j.ok k) (cC (Zrf.ok k) (cC (Zun.ok k) cN))))))) Tryz.func239
def Zsh (k:Nat) (a1:G28) (a2:G46) (a3:G54):Option (List Zmc×Str×List Int×Int):=Ya (Z2j a2) fun v4=>bif a3.1==1 then Ya (Z7e k a1 a2 a3) fun v5=>some (v5.1,v5.2.1,v5.2.2.1,v5.2.2.2) else bif a3.1==2 then Ya (Zzr k a1 a2 a3) fun v6=>some (v6.1,v6.2.1,v6.2.2.1,v6.2.2.2) else bif a3.1==3 then Ya (Zyr k a1 a2) fun v7=>some (v7.1,v7.2.1,v7.2.2.1,v7.2.2.2) else bif a3.1==4 then bif (a2.1==1)||(a2.1==5) then Ya (Zug 10) fun v8=>some (v8.1,v8.2.1,v8.2.2.1,v8.2.2.2) else Ya (Z3j a2) fun v9=>Ya (Z8e k a1 v9) fun v10=>some (v10,[],[],0) else bif a3.1==5 then bif a2.1 != 4 then Ya (Zug 10) fun v11=>some (v11.1,v11.2.1,v11.2.2.1,v11.2.2.2) else Ya (Z8e k a1 (5,(0,v4.2.2))) fun v12=>Ya (Zt 32 ([(false,(2,[])),(true,(0,[]))]) v12) fun v13=>some (v13,[],[],0) else bif a3.1==6 then Ya (Zng k a1 a2) fun v14=>some (v14.1,v14.2.1,v14.2.2.1,v14.2.2.2) else bif a3.1==7 then bif decide (a1.1≤a3.2.1) then Ya (Zug 8) fun v15=>some (v15.1,v15.2.1,v15.2.2.1,v15.2.2.2) else Ya (Z9e k a1 a2) fun v16=>let e17:=at? v16 a3.2.1;Ya (e17) fun v18=>Ya (e17) fun v19=>some ([],v19,[],0) else bif a3.1==8 then Ya (Zgh k a1 a2) fun v20=>some (v20.1,v20.2.1,v20.2.2.1,v20.2.2.2) else bif a3.1==9 then Ya (Z5c k a2.2.2.2.2.2.2.1 a2.2.2.2.2.2.2.2 a3.2.1) fun v21=>bif v21.2 != 0 then Ya (Zug v21.2) fun v22=>some (v22.1,v22.2.1,v22.2.2.1,v22.2.2.2) else Ya (Zyd k a2.2.2.2.2.2.2.1) fun v23=>Ya (Zyd k v21.1) fun v24=>Ya (Zhd k (Yc .i64 (v23+v24))) fun v25=>Ya (Z8e k a1 (v4.1,(v4.2.1,(v4.2.2.1,(v4.2.2.2.1,(v4.2.2.2.2.1,(v4.2.2.2.2.2.1,(v25,v4.2.2.2.2.2.2.2)))))))) fun v26=>some (v26,[],[],0) else bif a3.1==10 then Ya (Z8e k a1 (v4.1,(v4.2.1,(v4.2.2.1,(v4.2.2.2.1,(v4.2.2.2.2.1,(v4.2.2.2.2.2.1,([],v4.2.2.2.2.2.2.2)))))))) fun v27=>some (v27,[],[],0) else Ya (Zli k a1 a2) fun v28=>some (v28,[],[],0)
def Zsh.con (k:Nat):Con:=Sig.con { ps:=[.val true T28 (ros T28),.val true T46 (ros T46),.val true T54 (ros T54)],rs:=[.val true [.own 151 Z6b,.v .str,.own 2 (.int .i64),.v (.int .i64)]],ntmps:=127 } (fun x=>Zsh k x.1 x.2.1 x.2.2)
theorem Zsh.ok (k:Nat):Ze Yb 153 (Zsh.con k):=fA (cXr true false (cC (Zyd.ok k) (cC (Zug.ok k) (cC (Z2j.ok k) (cC (Z7e.ok k) (cC (Zzr.ok k) (cC (Zyr.ok k) (cC (Z8e.ok k) (cC (Z3j.ok k) (cC (Zng.ok k) (cC (Z9e.ok k) (cC (Zgh.ok k) (cC (Z5c.ok k) (cC (Zhd.ok k) (cC (Zli.ok k) cN))))))))))))))) Tryz.func153
def Zkl (k:Nat) (a1:G28) (a2:G54):Option (List Zmc×Str×List Int×Int):=Ya (Z6h k a1 a2) fun v3=>bif v3 != 0 then Ya (Zug v3) fun v4=>some (v4.1,v4.2.1,v4.2.2.1,v4.2.2.2) else Ya (Zrh k a1) fun v5=>Ya (Zsh k a1 (v5.1,(v5.2.1,(v5.2.2.1,(v5.2.2.2.1,(v5.2.2.2.2.1,(v5.2.2.2.2.2.1,(v5.2.2.2.2.2.2.1,v5.2.2.2.2.2.2.2.1))))))) a2) fun v6=>some (v6.1,v6.2.1,v6.2.2.1,v6.2.2.2)
def Zkl.con (k:Nat):Con:=Sig.con { ps:=[.val true T28 (ros T28),.val true T54 (ros T54)],rs:=[.val true [.own 151 Z6b,.v .str,.own 2 (.int .i64),.v (.int .i64)]],ntmps:=24 } (fun x=>Zkl k x.1 x.2)
theorem Zkl.ok (k:Nat):Ze Yb 70 (Zkl.con k):=fA (cXr true false (cC (Z6h.ok k) (cC (Zug.ok k) (cC (Zrh.ok k) (cC (Zsh.ok k) cN))))) Tryz.func70
def Ztn (k:Nat) (a1:G28) (a2:G54):Option (Int×List Str×List Zq×Str×List Int×Int):=Ya (Z6h k a1 a2) fun v3=>bif v3==1 then some (0,[],[],[],[],1) else Ya (Zkl k a1 a2) fun v4=>Ya (Zid k a1.2 v4.1) fun v5=>some (a1.1,v5.1,v5.2.1,v4.2.1,v4.2.2.1,v4.2.2.2)
def Ztn.con (k:Nat):Con:=Sig.con { ps:=[.val true T28 (ros T28),.val true T54 (ros T54)],rs:=[.val true [.v (.int .i64),.own 9 .str,.own 195 Zo,.v .str,.own 2 (.int .i64),.v (.int .i64)]],ntmps:=30 } (fun x=>Ztn k x.1 x.2)
theorem Ztn.ok (k:Nat):Ze Yb 21 (Ztn.con k):=fA (cXr true false (cC (Zid.ok k) (cC (Z6h.ok k) (cC (Zkl.ok k) cN)))) Tryz.func21
def Zxn (a1:List Zmc) (a2:Int):Option (List Zmc):=bif decide (a2<((a1.length):Int)) then Ya (Zpb a1 0 a2) fun v3=>some v3 else some a1
def Zxn.con (k:Nat):Con:=Sig.con { ps:=[.val false (.sl Z6b) (Z9g (.sl Z6b)),.val false (.int .i64) (ros (.int .i64))],rs:=[.val false [.v (.sl Z6b)]],ntmps:=13 } (fun x=>Zxn x.1 x.2)
theorem Zxn.ok (k:Nat):Ze Yb 77 (Zxn.con k):=fA (cX cN) Tryz.func77
def Zsr (a1:Str) (a2:Str) (a3:Int):Option (Str):=let e4:=(decide (8000<((a1.length):Int)))||(decide (8000<((a2.length):Int)));bif e4||(decide (a3<1)) then bif e4 then some ([]) else some a1 else bif a3==1 then some a2 else let e5:=Yc .i64 (a3-2);bif decide (((a2.length):Int)<e5) then Ya (Zpb a2 0 ((a2.length):Int)) fun v6=>some v6 else Ya (Zpb a2 0 e5) fun v7=>some v7
def Zsr.con (k:Nat):Con:=Sig.con { ps:=[.val false .str (ros .str),.val false .str (ros .str),.val false (.int .i64) (ros (.int .i64))],rs:=[.val false [.v .str]],ntmps:=44 } (fun x=>Zsr x.1 x.2.1 x.2.2)
theorem Zsr.ok (k:Nat):Ze Yb 162 (Zsr.con k):=fA (cX cN) Tryz.func162
def Zlc.j0 (a1:List Int) (a2:Int) (a3:Int):Option (Int):=bif decide (a2<((a1.length):Int)) then Ya (at? a1 a2) fun v4=>some v4 else some a3
def Zlc.l1:Nat→List Int→List Str→List Zq→Int→List Str→List Zq→Option ((List Str×List Zq))
 | 0,_,_,_,_,_,_=>none
 | j+1,a1,a2,a3,a4,a5,a6=>bif decide (a4<((a3.length):Int)) then Ya (Zlc.j0 a1 a4 0) fun y7=>Ya (at? a3 a4) fun v8=>Ya (at? a3 a4) fun v9=>Ya (at? a2 v9.1) fun v10=>Ya (at? a3 a4) fun v11=>Ya (Zsr v10 v11.2 y7) fun v12=>let e13:=at? a5 v8.1;Ya (e13) fun v14=>Ya (e13) fun v15=>Zlc.l1 j a1 a2 a3 (Yc .i64 (a4+1)) (Ye a5 (Yd v8.1) v12) a6 else some (a5,a6)
def Zlc (k:Nat) (a1:G26) (a2:List Int):Option (List Str×List Zq):=bif decide (400<((a2.length):Int)) then some ([],[]) else Ya (Z1 k a1) fun v3=>bif !v3 then Ya (Zsl a1) fun v4=>some (v4.1,v4.2) else Ya (Zt 16 [] a1.1) fun v5=>Ya (Zlc.l1 k a2 a1.1 a1.2 0 v5 []) fun y6=>some (y6.1,y6.2)
def Zlc.con (k:Nat):Con:=Sig.con { ps:=[.val true T26 (ros T26),.val false (.sl (.int .i64)) (ros (.sl (.int .i64)))],rs:=[.val true [.own 9 .str,.own 195 Zo]],ntmps:=65 } (fun x=>Zlc k x.1 x.2)
def Zlc.cok (k:Nat):=cXr true false (cC (Zsl.ok k) (cC (Z1.ok k) (cC (Zsr.ok k) cN)))
def Zlc.j0.s (k:Nat):Summ:=lq 65 { tmps:=[(1,.one (.bor (.int .i64))),(6,.one (.v (.int .i64))),(7,.one (.v (.int .i64)))],slots:=[],nb:=6 } [(.nrm,{ tmps:=[(7,.one (.v (.int .i64)))],slots:=[],nb:=6 })] (fun x=>Zlc.j0 x.1 x.2.1 x.2.2)
def Zlc.j0.ok (k:Nat):=(jA (Zlc.cok k):Zj Yb _ (cL (cR (cO (cL (cR (cO (cO (cR (cL (cR (cR (cR (cR (cB Yw)))))))))))))) (Zlc.j0.s k))
def Zlc.l1.s (k:Nat):Summ:=lp 65 { tmps:=[(1,.one (.bor (.int .i64))),(2,.eptr [.bor .str,.bor Zo]),(5,.one (.ptr 3 0)),(6,.one (.v (.int .i64)))],slots:=[(3,.box 26 [.own 4,.own 5]),(4,.arr false 9 .str),(5,.arr false 195 Zo)],nb:=6 } [(.exit 0,{ tmps:=[],slots:=[(3,.box 26 [.own 6,.own 7]),(6,.arr false 9 .str),(7,.arr false 195 Zo)],nb:=8 })] (fun j x=>Zlc.l1 j x.1 x.2.1 x.2.2.1 x.2.2.2.1 x.2.2.2.2.1 x.2.2.2.2.2) k
def Zlc.l1.ok (k:Nat):=(lP (.two .auto (.two (.one (.two .auto (.two (.sum (Zlc.j0.s k)) .auto))) .auto)) (Zlc.cok k) (sC (Zlc.j0.ok k) sN):Zj Yb _ (.loop (cO (cO (cR (cL (cR (cR (cR (cR (cB Yw)))))))))) (Zlc.l1.s k))
theorem Zlc.ok (k:Nat):Ze Yb 78 (Zlc.con k):=fP (.two .auto (.two .auto (.two .auto (.two .auto (.two (.two .auto (.one (.sum (Zlc.l1.s k)))) .auto))))) (Zlc.cok k) Tryz.func78 (sC (Zlc.l1.ok k) sN)
def Zml (k:Nat) (a1:G28) (a2:G54) (a3:Int) (a4:List Int):Option (Int×List Str×List Zq×Int):=bif decide (400<((a4.length):Int)) then some (0,[],[],2) else Ya (Zkl k a1 a2) fun v5=>bif decide (a3<0) then some (0,[],[],1) else Ya (Z6h k a1 a2) fun v6=>bif v6==1 then some (0,[],[],1) else Ya (Zxn v5.1 a3) fun v7=>Ya (Zid k a1.2 v7) fun v8=>Ya (Zlc k (v8.1,v8.2.1) a4) fun v9=>some (a1.1,v9.1,v9.2,0)
def Zml.con (k:Nat):Con:=Sig.con { ps:=[.val true T28 (ros T28),.val true T54 (ros T54),.val false (.int .i64) (ros (.int .i64)),.val false (.sl (.int .i64)) (ros (.sl (.int .i64)))],rs:=[.val true [.v (.int .i64),.own 9 .str,.own 195 Zo,.v (.int .i64)]],ntmps:=42 } (fun x=>Zml k x.1 x.2.1 x.2.2.1 x.2.2.2)
theorem Zml.ok (k:Nat):Ze Yb 30 (Zml.con k):=fA (cXr true false (cC (Zid.ok k) (cC (Z6h.ok k) (cC (Zkl.ok k) (cC (Zxn.ok k) (cC (Zlc.ok k) cN)))))) Tryz.func30
def Zll (k:Nat) (a1:G28) (a2:Int) (a3:List Int):Option (Int×List Str×List Zq×Int):=bif decide (400<((a3.length):Int)) then some (0,[],[],2) else Ya (Zrh k a1) fun v4=>bif (!v4.2.2.2.2.2.2.2.2)||(decide (a2<0)) then some (0,[],[],1) else Ya (Zli k a1 (v4.1,(v4.2.1,(v4.2.2.1,(v4.2.2.2.1,(v4.2.2.2.2.1,(v4.2.2.2.2.2.1,(v4.2.2.2.2.2.2.1,v4.2.2.2.2.2.2.2.1)))))))) fun v5=>Ya (Zxn v5 a2) fun v6=>Ya (Zid k a1.2 v6) fun v7=>Ya (Zlc k (v7.1,v7.2.1) a3) fun v8=>some (a1.1,v8.1,v8.2,0)
def Zll.con (k:Nat):Con:=Sig.con { ps:=[.val true T28 (ros T28),.val false (.int .i64) (ros (.int .i64)),.val false (.sl (.int .i64)) (ros (.sl (.int .i64)))],rs:=[.val true [.v (.int .i64),.own 9 .str,.own 195 Zo,.v (.int .i64)]],ntmps:=42 } (fun x=>Zll k x.1 x.2.1 x.2.2)
theorem Zll.ok (k:Nat):Ze Yb 166 (Zll.con k):=fA (cXr true false (cC (Zid.ok k) (cC (Zxn.ok k) (cC (Zlc.ok k) (cC (Zrh.ok k) (cC (Zli.ok k) cN)))))) Tryz.func166
def Z1o (k:Nat) (a1:G28):Option (Int×List Str×List Zq×Int):=Ya (Zrh k a1) fun v2=>bif !v2.2.2.2.2.2.2.2.2 then some (0,[],[],1) else Ya (Zli k a1 (v2.1,(v2.2.1,(v2.2.2.1,(v2.2.2.2.1,(v2.2.2.2.2.1,(v2.2.2.2.2.2.1,(v2.2.2.2.2.2.2.1,v2.2.2.2.2.2.2.2.1)))))))) fun v3=>Ya (Zid k a1.2 v3) fun v4=>some (a1.1,v4.1,v4.2.1,0)
def Z1o.con (k:Nat):Con:=Sig.con { ps:=[.val true T28 (ros T28)],rs:=[.val true [.v (.int .i64),.own 9 .str,.own 195 Zo,.v (.int .i64)]],ntmps:=24 } (fun x=>Z1o k x)
theorem Z1o.ok (k:Nat):Ze Yb 167 (Z1o.con k):=fA (cXr true false (cC (Zid.ok k) (cC (Zrh.ok k) (cC (Zli.ok k) cN)))) Tryz.func167
def Zaf.l0 (k:Nat):Nat→Int→Int→Int→Str→Int→Int→Int→Str→Int→List Int→List Int→Int→Int→List Str→List Zq→Option ((Int×List Str×List Zq))
 | 0,_,_,_,_,_,_,_,_,_,_,_,_,_,_,_=>none
 | j+1,a1,a2,a3,a4,a5,a6,a7,a8,a9,a10,a11,a12,a13,a14,a15=>bif decide (a12<((a11.length):Int)) then Ya (at? a11 a12) fun v16=>Ya (Zll k (a13,(a14,a15)) v16 a10) fun v17=>Zaf.l0 k j a1 a2 a3 a4 a5 a6 a7 a8 a9 a10 a11 (Yc .i64 (a12+1)) v17.1 v17.2.1 v17.2.2.1 else some (a13,a14,a15)
def Zaf (k:Nat) (a1:G28) (a2:G86):Option (Int×List Str×List Zq×Str×List Int×Int):=bif decide (a2.2.1<0) then Ya (Ztn k a1 a2.1) fun v3=>some (v3.1,v3.2.1,v3.2.2.1,v3.2.2.2.1,v3.2.2.2.2.1,v3.2.2.2.2.2) else Ya (Zml k a1 a2.1 a2.2.1 a2.2.2.1) fun v4=>Ya (Zaf.l0 k k a2.1.1 a2.1.2.1 a2.1.2.2.1 a2.1.2.2.2.1 a2.1.2.2.2.2.1 a2.1.2.2.2.2.2.1 a2.1.2.2.2.2.2.2.1 a2.1.2.2.2.2.2.2.2 a2.2.1 a2.2.2.1 a2.2.2.2 0 v4.1 v4.2.1 v4.2.2.1) fun y5=>Ya (Z1o k y5) fun v6=>some (v6.1,v6.2.1,v6.2.2.1,[],[],0)
def Zaf.con (k:Nat):Con:=Sig.con { ps:=[.val true T28 (ros T28),.val true T86 (ros T86)],rs:=[.val true [.v (.int .i64),.own 9 .str,.own 195 Zo,.v .str,.own 2 (.int .i64),.v (.int .i64)]],ntmps:=44 } (fun x=>Zaf k x.1 x.2)
def Zaf.cok (k:Nat):=cXr true false (cC (Ztn.ok k) (cC (Zml.ok k) (cC (Zll.ok k) (cC (Z1o.ok k) cN))))
def Zaf.l0.s (k:Nat):Summ:=lp 44 { tmps:=[(3,.eptr [.v (.int .i64),.v (.int .i64),.v (.int .i64),.v .str,.v (.int .i64),.v (.int .i64),.v (.int .i64),.v .str,.v (.int .i64),.bor (.int .i64),.bor (.int .i64)]),(5,.one (.ptr 3 0)),(6,.one (.v (.int .i64)))],slots:=[(3,.box 28 [.v (.int .i64),.own 4,.own 5]),(4,.arr false 9 .str),(5,.arr false 195 Zo)],nb:=6 } [(.exit 0,{ tmps:=[],slots:=[(3,.box 28 [.v (.int .i64),.own 6,.own 7]),(6,.arr false 9 .str),(7,.arr false 195 Zo)],nb:=8 })] (fun j x=>Zaf.l0 k j x.1 x.2.1 x.2.2.1 x.2.2.2.1 x.2.2.2.2.1 x.2.2.2.2.2.1 x.2.2.2.2.2.2.1 x.2.2.2.2.2.2.2.1 x.2.2.2.2.2.2.2.2.1 x.2.2.2.2.2.2.2.2.2.1 x.2.2.2.2.2.2.2.2.2.2.1 x.2.2.2.2.2.2.2.2.2.2.2.1 x.2.2.2.2.2.2.2.2.2.2.2.2.1 x.2.2.2.2.2.2.2.2.2.2.2.2.2.1 x.2.2.2.2.2.2.2.2.2.2.2.2.2.2) k
def Zaf.l0.ok (k:Nat):=(lA (Zaf.cok k):Zj Yb _ (.loop (cO (cO (cR (cL (cR (cR (cR (cB Tryz.f82))))))))) (Zaf.l0.s k))
theorem Zaf.ok (k:Nat):Ze Yb 82 (Zaf.con k):=fP (.two .auto (.two .auto (.two .auto (.two (.two .auto (.one (.sum (Zaf.l0.s k)))) .auto)))) (Zaf.cok k) Tryz.func82 (sC (Zaf.l0.ok k) sN)
def Zim (k:Nat) (a1:G28) (a2:G86):Option (Int×List Str×List Zq×Str×List Int×Int):=Ya (Zkm k a1) fun v3=>bif !v3 then some (0,[],[],[],[],1) else Ya (Z2o k a2) fun v4=>bif !v4 then some (0,[],[],[],[],1) else Ya (Zaf k a1 a2) fun v5=>some (v5.1,v5.2.1,v5.2.2.1,v5.2.2.2.1,v5.2.2.2.2.1,v5.2.2.2.2.2)
def Zim.con (k:Nat):Con:=Sig.con { ps:=[.val true T28 (ros T28),.val true T86 (ros T86)],rs:=[.val true [.v (.int .i64),.own 9 .str,.own 195 Zo,.v .str,.own 2 (.int .i64),.v (.int .i64)]],ntmps:=17 } (fun x=>Zim k x.1 x.2)
theorem Zim.ok (k:Nat):Ze Yb 38 (Zim.con k):=fA (cXr true false (cC (Zkm.ok k) (cC (Z2o.ok k) (cC (Zaf.ok k) cN)))) Tryz.func38
def Zbt (a1:G52):Option (Int×Int×Int×Str):=some (a1.1,a1.2.1,a1.2.2.1,a1.2.2.2)
def Zbt.con (k:Nat):Con:=Sig.con { ps:=[.val true T52 (ros T52)],rs:=[.val true [.v (.int .i64),.v (.int .i64),.v (.int .i64),.v .str]],ntmps:=17 } (fun x=>Zbt x)
theorem Zbt.ok (k:Nat):Ze Yb 72 (Zbt.con k):=fA (cX cN) Tryz.func72
def Zat (a1:G54):Option (Int×Int×Int×Str×Int×Int×Int×Str):=Ya (Zbt a1.2.2.2.2) fun v2=>some (a1.1,a1.2.1,a1.2.2.1,a1.2.2.2.1,v2.1,v2.2.1,v2.2.2.1,v2.2.2.2)
def Zat.con (k:Nat):Con:=Sig.con { ps:=[.val true T54 (ros T54)],rs:=[.val true [.v (.int .i64),.v (.int .i64),.v (.int .i64),.v .str,.v (.int .i64),.v (.int .i64),.v (.int .i64),.v .str]],ntmps:=21 } (fun x=>Zat x)
theorem Zat.ok (k:Nat):Ze Yb 23 (Zat.con k):=fA (cX (cC (Zbt.ok k) cN)) Tryz.func23
def Z2e.l0:Nat→List Int→Int→List Int→Option ((List Int))
 | 0,_,_,_=>none
 | j+1,a1,a2,a3=>bif decide (a2<((a1.length):Int)) then Ya (at? a1 a2) fun v4=>Ya (at? a3 a2) fun v5=>Ya (at? a3 a2) fun v6=>Z2e.l0 j a1 (Yc .i64 (a2+1)) (Ye a3 (Yd a2) v4) else some a3
def Z2e (k:Nat) (a1:List Int):Option (List Int):=Ya (Z3g 8 ((a1.length):Int) ((a1.length):Int) 0) fun v2=>Ya (Z2e.l0 k a1 0 v2) fun y3=>some y3
def Z2e.con (k:Nat):Con:=Sig.con { ps:=[.val false (.sl (.int .i64)) (ros (.sl (.int .i64)))],rs:=[.val false [.own 2 (.int .i64)]],ntmps:=22 } (fun x=>Z2e k x)
def Z2e.cok (k:Nat):=cX cN
def Z2e.l0.s (k:Nat):Summ:=lp 22 { tmps:=[(0,.one (.bor (.int .i64))),(3,.one (.own 1)),(4,.one (.v (.int .i64)))],slots:=[(1,.arr false 2 (.int .i64))],nb:=2 } [(.exit 0,{ tmps:=[(3,.one (.own 2))],slots:=[(2,.arr false 2 (.int .i64))],nb:=3 })] (fun j x=>Z2e.l0 j x.1 x.2.1 x.2.2) k
def Z2e.l0.ok (k:Nat):=(lA (Z2e.cok k):Zj Yb _ (.loop (cO (cO (cR (cL (cR (cR (cB Tryz.f31)))))))) (Z2e.l0.s k))
theorem Z2e.ok (k:Nat):Ze Yb 31 (Z2e.con k):=fP (.two .auto (.two .auto (.two (.two .auto (.one (.sum (Z2e.l0.s k)))) .auto))) (Z2e.cok k) Tryz.func31 (sC (Z2e.l0.ok k) sN)
def Z9l (k:Nat) (a1:G86):Option (Int×Int×Int×Str×Int×Int×Int×Str×Int×List Int×List Int):=Ya (Zat a1.1) fun v2=>Ya (Z2e k a1.2.2.1) fun v3=>Ya (Z2e k a1.2.2.2) fun v4=>some (v2.1,v2.2.1,v2.2.2.1,v2.2.2.2.1,v2.2.2.2.2.1,v2.2.2.2.2.2.1,v2.2.2.2.2.2.2.1,v2.2.2.2.2.2.2.2,a1.2.1,v3,v4)
def Z9l.con (k:Nat):Con:=Sig.con { ps:=[.val true T86 (ros T86)],rs:=[.val true [.v (.int .i64),.v (.int .i64),.v (.int .i64),.v .str,.v (.int .i64),.v (.int .i64),.v (.int .i64),.v .str,.v (.int .i64),.own 2 (.int .i64),.own 2 (.int .i64)]],ntmps:=20 } (fun x=>Z9l k x)
theorem Z9l.ok (k:Nat):Ze Yb 39 (Z9l.con k):=fA (cXr true false (cC (Zat.ok k) (cC (Z2e.ok k) cN))) Tryz.func39
def Z3 (a1:Int) (a2:Int) (a3:Int):Option (Bool):=some ((decide (a2≤a1))&&(decide (a1≤a3)))
def Z3.con (k:Nat):Con:=Sig.con { ps:=[.val false (.int .i64) (ros (.int .i64)),.val false (.int .i64) (ros (.int .i64)),.val false (.int .i64) (ros (.int .i64))],rs:=[.val false [.v .bool]],ntmps:=15 } (fun x=>Z3 x.1 x.2.1 x.2.2)
theorem Z3.ok (k:Nat):Ze Yb 123 (Z3.con k):=fA (cX cN) Tryz.func123
def Zhk (a1:Int):Option (Bool):=Ya (Z3 a1 1 8) fun v2=>some v2
def Zhk.con (k:Nat):Con:=Sig.con { ps:=[.val false (.int .i64) (ros (.int .i64))],rs:=[.val false [.v .bool]],ntmps:=5 } (fun x=>Zhk x)
theorem Zhk.ok (k:Nat):Ze Yb 92 (Zhk.con k):=fA (cX (cC (Z3.ok k) cN)) Tryz.func92
def Zzi (a1:List Str):Option (Int):=some ((a1.length):Int)
def Zzi.con (k:Nat):Con:=Sig.con { ps:=[.val false (.sl .str) (ros (.sl .str))],rs:=[.val false [.v (.int .i64)]],ntmps:=5 } (fun x=>Zzi x)
theorem Zzi.ok (k:Nat):Ze Yb 93 (Zzi.con k):=fA (cX cN) Tryz.func93
def Zcq (a1:Str):Option (Bool):=some (((a1.length):Int) != 8)
def Zcq.con (k:Nat):Con:=Sig.con { ps:=[.val false .str (ros .str)],rs:=[.val false [.v .bool]],ntmps:=6 } (fun x=>Zcq x)
theorem Zcq.ok (k:Nat):Ze Yb 95 (Zcq.con k):=fA (cX cN) Tryz.func95
def Zod.l0:Nat→List Str→Int→Int→Option (Unit ⊕ Int)
 | 0,_,_,_=>none
 | j+1,a1,a2,a3=>bif decide (a3<a2) then Ya (at? a1 a3) fun v4=>Ya (Zcq v4) fun v5=>bif v5 then some (.inr a3) else Zod.l0 j a1 a2 (Yc .i64 (a3+1)) else some (.inl ())
def Zod (k:Nat) (a1:List Str):Option (Int):=Ya (Zod.l0 k a1 ((a1.length):Int) 0) fun
  | .inl y2=>some (-1)
  | .inr y3=>some y3
def Zod.con (k:Nat):Con:=Sig.con { ps:=[.val false (.sl .str) (ros (.sl .str)),.fn 95 []],rs:=[.val false [.v (.int .i64)]],ntmps:=19 } (fun x=>Zod k x)
def Zod.cok (k:Nat):=cX (cC (Zcq.ok k) cN)
def Zod.l0.s (k:Nat):Summ:=lp 19 { tmps:=[(0,.one (.bor .str)),(1,.fn 95 []),(7,.one (.v (.int .i64))),(8,.one (.v (.int .i64)))],slots:=[],nb:=0 } [(.exit 0,{ tmps:=[],slots:=[],nb:=0 }),(.ret,{ tmps:=[(4,.one (.v (.int .i64)))],slots:=[],nb:=0 })] (fun j x=>Zod.l0 j x.1 x.2.1 x.2.2) k
def Zod.l0.ok (k:Nat):=(lA (Zod.cok k):Zj Yb _ (.loop (cO (cO (cR (cL (cR (cB Yr))))))) (Zod.l0.s k))
theorem Zod.ok (k:Nat):Ze Yb 184 (Zod.con k):=fP (.two .auto (.two (.two .auto (.one (.sum (Zod.l0.s k)))) .auto)) (Zod.cok k) Yy (sC (Zod.l0.ok k) sN)
def Zot (k:Nat) (a1:List Str):Option (Bool):=Ya (Zod k a1) fun v2=>some (decide (0≤v2))
def Zot.con (k:Nat):Con:=Sig.con { ps:=[.val false (.sl .str) (ros (.sl .str)),.fn 95 []],rs:=[.val false [.v .bool]],ntmps:=9 } (fun x=>Zot k x)
theorem Zot.ok (k:Nat):Ze Yb 94 (Zot.con k):=fA (cX (cC (Zod.ok k) cN)) Y1
def Zbq (k:Nat) (a1:List Str):Option (Bool):=Ya (Zzi a1) fun v2=>Ya (Zhk v2) fun v3=>bif v3 then Ya (Zot k a1) fun v4=>some (!v4) else some false
def Zbq.con (k:Nat):Con:=Sig.con { ps:=[.val false (.sl .str) (ros (.sl .str))],rs:=[.val false [.v .bool]],ntmps:=11 } (fun x=>Zbq k x)
theorem Zbq.ok (k:Nat):Ze Yb 50 (Zbq.con k):=fA (cX (cC (Zhk.ok k) (cC (Zzi.ok k) (cC (Zot.ok k) cN)))) Tryz.func50
def Z2s (a1:Zq) (a2:Int):Option (Bool):=some (a1.1==a2)
def Z2s.con (k:Nat):Con:=Sig.con { ps:=[.val true Zo (ros Zo),.rptr (.int .i64)],rs:=[.val false [.v .bool]],ntmps:=8 } (fun x=>Z2s x.1 x.2)
theorem Z2s.ok (k:Nat):Ze Yb 266 (Z2s.con k):=fA (cX cN) Tryz.func266
def Z2d.l0:Nat→List Zq→Int→Int→Int→Option (Int ⊕ (Int×Int))
 | 0,_,_,_,_=>none
 | j+1,a1,a2,a3,a4=>bif decide (a3<a2) then Ya (at? a1 a3) fun v5=>Ya (Z2s v5 a4) fun v6=>bif v6 then some (.inr (a3,a4)) else Z2d.l0 j a1 a2 (Yc .i64 (a3+1)) a4 else some (.inl a4)
def Z2d (k:Nat) (a1:List Zq) (a2:Int):Option (Int×Int):=Ya (Z2d.l0 k a1 ((a1.length):Int) 0 a2) fun
  | .inl y3=>some ((-1),y3)
  | .inr y4=>some (y4.1,y4.2)
def Z2d.con (k:Nat):Con:=Sig.con { ps:=[.val false (.sl Zo) (ros (.sl Zo)),.fn 266 [(2,(.int .i64),(Z9g (.int .i64)))]],rs:=[.val false [.v (.int .i64)]],ntmps:=19 } (fun x=>Z2d k x.1 x.2)
def Z2d.cok (k:Nat):=cX (cC (Z2s.ok k) cN)
def Z2d.l0.s (k:Nat):Summ:=lp 19 { tmps:=[(0,.one (.bor Zo)),(1,.fn 266 [.ptr 0 0]),(7,.one (.v (.int .i64))),(8,.one (.v (.int .i64)))],slots:=[(0,.box 2 [.v (.int .i64)])],nb:=1 } [(.exit 0,{ tmps:=[],slots:=[(0,.box 2 [.v (.int .i64)])],nb:=1 }),(.ret,{ tmps:=[(4,.one (.v (.int .i64)))],slots:=[(0,.box 2 [.v (.int .i64)])],nb:=1 })] (fun j x=>Z2d.l0 j x.1 x.2.1 x.2.2.1 x.2.2.2) k
def Z2d.l0.ok (k:Nat):=(lA (Z2d.cok k):Zj Yb _ (.loop (cO (cO (cR (cL (cR (cB Tryz.f265))))))) (Z2d.l0.s k))
theorem Z2d.ok (k:Nat):Ze Yb 265 (Z2d.con k):=fP (.two .auto (.two (.two .auto (.one (.sum (Z2d.l0.s k)))) .auto)) (Z2d.cok k) Tryz.func265 (sC (Z2d.l0.ok k) sN)
def Z8k (k:Nat) (a1:G26) (a2:Int):Option (Int):=Ya (Z2d k a1.2 a2) fun v3=>some v3.1
def Z8k.con (k:Nat):Con:=Sig.con { ps:=[.val true T26 (ros T26),.val false (.int .i64) (ros (.int .i64))],rs:=[.val false [.v (.int .i64)]],ntmps:=9 } (fun x=>Z8k k x.1 x.2)
theorem Z8k.ok (k:Nat):Ze Yb 212 (Z8k.con k):=fA (cXr true false (cC (Z2d.ok k) cN)) Tryz.func212
def Zig (k:Nat) (a1:G26) (a2:Int):Option (Str):=Ya (Z8k k a1 a2) fun v3=>bif decide (0≤v3) then Ya (at? a1.2 v3) fun v4=>some v4.2 else Ya (at? a1.1 a2) fun v5=>some v5
def Zig.con (k:Nat):Con:=Sig.con { ps:=[.val true T26 (ros T26),.val false (.int .i64) (ros (.int .i64))],rs:=[.val false [.v .str]],ntmps:=22 } (fun x=>Zig k x.1 x.2)
theorem Zig.ok (k:Nat):Ze Yb 119 (Zig.con k):=fA (cXr true false (cC (Z8k.ok k) cN)) Tryz.func119
def Zzd.l0 (k:Nat):Nat→Int→List Str→List Zq→Int→Int→List Str→Option ((List Str))
 | 0,_,_,_,_,_,_=>none
 | j+1,a1,a2,a3,a4,a5,a6=>bif decide (a5<a4) then Ya (Zig k (a2,a3) (Yc .i64 (3+a5))) fun v7=>Ya (Zt 16 a6 [v7]) fun v8=>Zzd.l0 k j a1 a2 a3 a4 (Yc .i64 (a5+1)) v8 else some a6
def Zzd (k:Nat) (a1:G28):Option (List Str):=Ya (Zzd.l0 k k a1.1 a1.2.1 a1.2.2 a1.1 0 []) fun y2=>some y2
def Zzd.con (k:Nat):Con:=Sig.con { ps:=[.val true T28 (ros T28)],rs:=[.val false [.own 9 .str]],ntmps:=20 } (fun x=>Zzd k x)
def Zzd.cok (k:Nat):=cXr true false (cC (Zig.ok k) cN)
def Zzd.l0.s (k:Nat):Summ:=lp 20 { tmps:=[(1,.eptr [.v (.int .i64),.bor .str,.bor Zo]),(3,.one (.own 0)),(6,.one (.v (.int .i64))),(7,.one (.v (.int .i64)))],slots:=[(0,.arr false 9 .str)],nb:=1 } [(.exit 0,{ tmps:=[(3,.one (.own 1))],slots:=[(1,.arr false 9 .str)],nb:=2 })] (fun j x=>Zzd.l0 k j x.1 x.2.1 x.2.2.1 x.2.2.2.1 x.2.2.2.2.1 x.2.2.2.2.2) k
def Zzd.l0.ok (k:Nat):=(lA (Zzd.cok k):Zj Yb _ (.loop (cO (cO (cR (cL (cR (cR (cB Tryz.f58)))))))) (Zzd.l0.s k))
theorem Zzd.ok (k:Nat):Ze Yb 58 (Zzd.con k):=fP (.two .auto (.two .auto (.two (.two .auto (.one (.sum (Zzd.l0.s k)))) .auto))) (Zzd.cok k) Tryz.func58 (sC (Zzd.l0.ok k) sN)
def Zaq (a1:Str):Option (Bool):=some (decide (96<((a1.length):Int)))
def Zaq.con (k:Nat):Con:=Sig.con { ps:=[.val false .str (ros .str)],rs:=[.val false [.v .bool]],ntmps:=6 } (fun x=>Zaq x)
theorem Zaq.ok (k:Nat):Ze Yb 213 (Zaq.con k):=fA (cX cN) Tryz.func213
def Zae.l0:Nat→List Str→Int→Int→Option (Unit ⊕ Int)
 | 0,_,_,_=>none
 | j+1,a1,a2,a3=>bif decide (a3<a2) then Ya (at? a1 a3) fun v4=>Ya (Zaq v4) fun v5=>bif v5 then some (.inr a3) else Zae.l0 j a1 a2 (Yc .i64 (a3+1)) else some (.inl ())
def Zae (k:Nat) (a1:List Str):Option (Int):=Ya (Zae.l0 k a1 ((a1.length):Int) 0) fun
  | .inl y2=>some (-1)
  | .inr y3=>some y3
def Zae.con (k:Nat):Con:=Sig.con { ps:=[.val false (.sl .str) (ros (.sl .str)),.fn 213 []],rs:=[.val false [.v (.int .i64)]],ntmps:=19 } (fun x=>Zae k x)
def Zae.cok (k:Nat):=cX (cC (Zaq.ok k) cN)
def Zae.l0.s (k:Nat):Summ:=lp 19 { tmps:=[(0,.one (.bor .str)),(1,.fn 213 []),(7,.one (.v (.int .i64))),(8,.one (.v (.int .i64)))],slots:=[],nb:=0 } [(.exit 0,{ tmps:=[],slots:=[],nb:=0 }),(.ret,{ tmps:=[(4,.one (.v (.int .i64)))],slots:=[],nb:=0 })] (fun j x=>Zae.l0 j x.1 x.2.1 x.2.2) k
def Zae.l0.ok (k:Nat):=(lA (Zae.cok k):Zj Yb _ (.loop (cO (cO (cR (cL (cR (cB Yr))))))) (Zae.l0.s k))
theorem Zae.ok (k:Nat):Ze Yb 184 (Zae.con k):=fP (.two .auto (.two (.two .auto (.one (.sum (Zae.l0.s k)))) .auto)) (Zae.cok k) Yy (sC (Zae.l0.ok k) sN)
def Zmr (k:Nat) (a1:List Str):Option (Bool):=Ya (Zae k a1) fun v2=>some (decide (0≤v2))
def Zmr.con (k:Nat):Con:=Sig.con { ps:=[.val false (.sl .str) (ros (.sl .str)),.fn 213 []],rs:=[.val false [.v .bool]],ntmps:=9 } (fun x=>Zmr k x)
theorem Zmr.ok (k:Nat):Ze Yb 94 (Zmr.con k):=fA (cX (cC (Zae.ok k) cN)) Y1
def Zbn (a1:G26) (a2:Int):Option (Bool):=Ya (Zzi a1.1) fun v3=>Ya (Z3 a2 0 (Yc .i64 (v3-1))) fun v4=>some v4
def Zbn.con (k:Nat):Con:=Sig.con { ps:=[.val true T26 (ros T26),.val false (.int .i64) (ros (.int .i64))],rs:=[.val false [.v .bool]],ntmps:=11 } (fun x=>Zbn x.1 x.2)
theorem Zbn.ok (k:Nat):Ze Yb 147 (Zbn.con k):=fA (cXr true false (cC (Zzi.ok k) (cC (Z3.ok k) cN))) Tryz.func147
def Z0e.l0 (k:Nat):Nat→List Str→List Zq→List Zq→Int→Int→Option (Unit ⊕ Bool)
 | 0,_,_,_,_,_=>none
 | j+1,a1,a2,a3,a4,a5=>bif decide (a5<a4) then Ya (at? a3 a5) fun v6=>Ya (Zbn (a1,a2) v6.1) fun v7=>bif (!v7)||(decide (96<((v6.2.length):Int))) then some (.inr false) else Ya (Z8k k (a1,a2) v6.1) fun v8=>bif decide (v8<a5) then some (.inr false) else Z0e.l0 k j a1 a2 a3 a4 (Yc .i64 (a5+1)) else some (.inl ())
def Z0e (k:Nat) (a1:G26):Option (Bool):=Ya (Zzi a1.1) fun v2=>Ya (Z3 v2 1 40) fun v3=>let e4:=((a1.2.length):Int);bif (!v3)||(decide (((a1.1.length):Int)<e4)) then some false else Ya (Zmr k a1.1) fun v5=>bif v5 then some false else Ya (Z0e.l0 k k a1.1 a1.2 a1.2 e4 0) fun
  | .inl y6=>some true
  | .inr y7=>some y7
def Z0e.con (k:Nat):Con:=Sig.con { ps:=[.val true T26 (ros T26)],rs:=[.val false [.v .bool]],ntmps:=52 } (fun x=>Z0e k x)
def Z0e.cok (k:Nat):=cXr true false (cC (Zzi.ok k) (cC (Zmr.ok k) (cC (Z3.ok k) (cC (Zbn.ok k) (cC (Z8k.ok k) cN)))))
def Z0e.l0.s (k:Nat):Summ:=lp 52 { tmps:=[(1,.eptr [.bor .str,.bor Zo]),(25,.one (.bor Zo)),(26,.one (.v (.int .i64))),(27,.one (.v (.int .i64)))],slots:=[],nb:=0 } [(.exit 0,{ tmps:=[],slots:=[],nb:=0 }),(.ret,{ tmps:=[(2,.one (.v .bool))],slots:=[],nb:=0 })] (fun j x=>Z0e.l0 k j x.1 x.2.1 x.2.2.1 x.2.2.2.1 x.2.2.2.2) k
def Z0e.l0.ok (k:Nat):=(lA (Z0e.cok k):Zj Yb _ (.loop (cO (cO (cR (cL (cR (cR (cB Tryz.f120)))))))) (Z0e.l0.s k))
theorem Z0e.ok (k:Nat):Ze Yb 120 (Z0e.con k):=fP (.two .auto (.two .auto (.two (.two .auto (.one (.sum (Z0e.l0.s k)))) .auto))) (Z0e.cok k) Tryz.func120 (sC (Z0e.l0.ok k) sN)
def Zhf.l0:Nat→Str→Int→Int→Int→Option ((Int×Int×Int))
 | 0,_,_,_,_=>none
 | j+1,a1,a2,a3,a4=>bif decide ((Yc .i64 (((a1.length):Int)-a4))≤a2) then some (0,0,4) else let e5:=Yc .i64 (a2+a4);Ya (at? a1 e5) fun v6=>bif (a4==9)&&(decide (1<(v6.toNat:Int))) then some (0,0,3) else let e7:=Yc .i64 (7*a4);Ya (Zwb e7) fun v8=>let e9:=intBits .or .u64 a3 (shl .u64 (Yc .u64 (intBits .and .u8 (v6.toNat:Int) 127)) e7);bif decide (127<(v6.toNat:Int)) then Zhf.l0 j a1 a2 e9 (Yc .i64 (a4+1)) else bif ((v6.toNat:Int)==0)&&(decide (0<a4)) then some (0,0,3) else Ya (Zwb 1) fun v10=>let e11:=Yc .i64 (e5+1);let e12:=Yc .i64 (shr .u64 e9 1);bif (intBits .and .u64 e9 1)==1 then some (intBits .xor .i64 (-1) e12,e11,0) else some (e12,e11,0)
def Zhf (k:Nat) (a1:Str) (a2:Int):Option (Int×Int×Int):=bif decide (a2<0) then some (0,0,1) else Ya (Zhf.l0 k a1 a2 0 0) fun y3=>some (y3.1,y3.2.1,y3.2.2)
def Zhf.con (k:Nat):Con:=Sig.con { ps:=[.val false .str (ros .str),.val false (.int .i64) (ros (.int .i64))],rs:=[.val false [.v (.int .i64)],.val false [.v (.int .i64)],.val false [.v (.int .i64)]],ntmps:=61 } (fun x=>Zhf k x.1 x.2)
def Zhf.cok (k:Nat):=cX cN
def Zhf.l0.s (k:Nat):Summ:=lp 61 { tmps:=[(0,.one (.v .str)),(1,.one (.v (.int .i64))),(7,.one (.v (.int .u64))),(8,.one (.v (.int .i64)))],slots:=[],nb:=0 } [(.ret,{ tmps:=[(4,.one (.v (.int .i64))),(5,.one (.v (.int .i64))),(6,.one (.v (.int .i64)))],slots:=[],nb:=0 })] (fun j x=>Zhf.l0 j x.1 x.2.1 x.2.2.1 x.2.2.2) k
def Zhf.l0.ok (k:Nat):=(lA (Zhf.cok k):Zj Yb _ (.loop (cO (cO (cR (cR (cR (cR (cB Tryz.f267)))))))) (Zhf.l0.s k))
theorem Zhf.ok (k:Nat):Ze Yb 267 (Zhf.con k):=fP (.two .auto (.two .auto (.two .auto (.two .auto (.one (.sum (Zhf.l0.s k))))))) (Zhf.cok k) Tryz.func267 (sC (Zhf.l0.ok k) sN)
def Zgc (k:Nat) (a1:Z0v):Option (Int×Str×Int×Bool):=Ya (Zhf k a1.1 a1.2.1) fun v2=>bif v2.2.2 != 0 then some (0,a1.1,a1.2.1,true) else some (v2.1,a1.1,v2.2.1,a1.2.2)
def Zgc.con (k:Nat):Con:=Sig.con { ps:=[.ref 234 Zzk (Z9g Zzk)],rs:=[.val false [.v (.int .i64)]],ntmps:=29 } (fun x=>Zgc k x)
theorem Zgc.ok (k:Nat):Ze Yb 215 (Zgc.con k):=fA (cX (cC (Zhf.ok k) cN)) Tryz.func215
def Z6p (k:Nat) (a1:Str) (a2:Int):Option (Str×Int×Int):=Ya (Zhf k a1 a2) fun v3=>bif v3.2.2 != 0 then some ([],0,v3.2.2) else Ya (Z3 v3.1 0 8000) fun v4=>bif !v4 then some ([],0,3) else bif decide ((Yc .i64 (((a1.length):Int)-v3.2.1))<v3.1) then some ([],0,4) else let e5:=Yc .i64 (v3.2.1+v3.1);Ya (Zpb a1 v3.2.1 e5) fun v6=>some (v6,e5,0)
def Z6p.con (k:Nat):Con:=Sig.con { ps:=[.val false .str (ros .str),.val false (.int .i64) (ros (.int .i64))],rs:=[.val false [.v .str],.val false [.v (.int .i64)],.val false [.v (.int .i64)]],ntmps:=41 } (fun x=>Z6p k x.1 x.2)
theorem Z6p.ok (k:Nat):Ze Yb 268 (Z6p.con k):=fA (cX (cC (Z3.ok k) (cC (Zhf.ok k) cN))) Tryz.func268
def Z8g (k:Nat) (a1:Z0v):Option (Str×Str×Int×Bool):=Ya (Z6p k a1.1 a1.2.1) fun v2=>bif v2.2.2 != 0 then some ([],a1.1,a1.2.1,true) else some (v2.1,a1.1,v2.2.1,a1.2.2)
def Z8g.con (k:Nat):Con:=Sig.con { ps:=[.ref 234 Zzk (Z9g Zzk)],rs:=[.val false [.v .str]],ntmps:=29 } (fun x=>Z8g k x)
theorem Z8g.ok (k:Nat):Ze Yb 216 (Z8g.con k):=fA (cX (cC (Z6p.ok k) cN)) Tryz.func216
def Zec.l0:Nat→Str→Int→Int→Int→Option (Int)
 | 0,_,_,_,_=>none
 | j+1,a1,a2,a3,a4=>bif decide (a4<8) then Ya (at? a1 a3) fun v5=>Ya (Zwb a4) fun v6=>Ya (Zwb 1) fun v7=>let e8:=Yc .i64 (a4+1);bif (intBits .and .u32 (intBits .xor .u32 a2 (shr .u32 (Yc .u32 (v5.toNat:Int)) a4)) 1)==1 then Zec.l0 j a1 (intBits .xor .u32 (shr .u32 a2 1) 3988292384) a3 e8 else Zec.l0 j a1 (shr .u32 a2 1) a3 e8 else some a2
def Zec.l1 (k:Nat):Nat→Str→Int→Int→Int→Option (Int)
 | 0,_,_,_,_=>none
 | j+1,a1,a2,a3,a4=>bif decide (a4<a3) then Ya (Zec.l0 k a1 a2 a4 0) fun y5=>Zec.l1 k j a1 y5 a3 (Yc .i64 (a4+1)) else some a2
def Zec (k:Nat) (a1:Int) (a2:Str):Option (Int):=Ya (Zec.l1 k k a2 (intBits .xor .u32 (Yl .u32) a1) ((a2.length):Int) 0) fun y3=>some (intBits .xor .u32 (Yl .u32) y3)
def Zec.con (k:Nat):Con:=Sig.con { ps:=[.val false (.int .u32) (ros (.int .u32)),.val false .str (ros .str)],rs:=[.val false [.v (.int .u32)]],ntmps:=38 } (fun x=>Zec k x.1 x.2)
def Zec.cok (k:Nat):=cX cN
def Zec.l0.s (k:Nat):Summ:=lp 38 { tmps:=[(1,.one (.v .str)),(5,.one (.v (.int .u32))),(6,.one (.v (.int .i64))),(16,.one (.v (.int .i64)))],slots:=[],nb:=0 } [(.exit 2,{ tmps:=[(5,.one (.v (.int .u32)))],slots:=[],nb:=0 })] (fun j x=>Zec.l0 j x.1 x.2.1 x.2.2.1 x.2.2.2) k
def Zec.l0.ok (k:Nat):=(lA (Zec.cok k):Zj Yb _ (.loop (cO (cO (cR (cR (cO (cL (cR (cR (cO (cO (cR (cL (cR (cR (cB Yv)))))))))))))))) (Zec.l0.s k))
def Zec.l1.s (k:Nat):Summ:=lp 38 { tmps:=[(1,.one (.v .str)),(5,.one (.v (.int .u32))),(12,.one (.v (.int .i64))),(13,.one (.v (.int .i64)))],slots:=[],nb:=0 } [(.exit 0,{ tmps:=[(5,.one (.v (.int .u32)))],slots:=[],nb:=0 })] (fun j x=>Zec.l1 k j x.1 x.2.1 x.2.2.1 x.2.2.2) k
def Zec.l1.ok (k:Nat):=(lP (.two .auto (.two .auto (.two (.one (.two .auto (.two .auto (.one (.sum (Zec.l0.s k)))))) .auto))) (Zec.cok k) (sC (Zec.l0.ok k) sN):Zj Yb _ (.loop (cO (cO (cR (cL (cR (cR (cB Yv)))))))) (Zec.l1.s k))
theorem Zec.ok (k:Nat):Ze Yb 292 (Zec.con k):=fP (.two .auto (.two .auto (.two (.two .auto (.one (.sum (Zec.l1.s k)))) .auto))) (Zec.cok k) Tryz.func292 (sC (Zec.l1.ok k) sN)
def Zoj (k:Nat) (a1:Str):Option (Str):=Ya (Zec k 0 a1) fun v2=>Ya (Zwb 8) fun v3=>Ya (Zwb 16) fun v4=>Ya (Zwb 24) fun v5=>Ya (Zsc a1 (Zob [(Yc .u8 v2),(Yc .u8 (shr .u32 v2 8)),(Yc .u8 (shr .u32 v2 16)),(Yc .u8 (shr .u32 v2 24))])) fun v6=>some v6
def Zoj.con (k:Nat):Con:=Sig.con { ps:=[.val false .str (ros .str)],rs:=[.val false [.v .str]],ntmps:=21 } (fun x=>Zoj k x)
theorem Zoj.ok (k:Nat):Ze Yb 254 (Zoj.con k):=fA (cX (cC (Zec.ok k) cN)) Tryz.func254
def Zbl (k:Nat) (a1:Str):Option (Str×Int):=bif decide (((a1.length):Int)<4) then some ([],4) else Ya (Zpb a1 0 (Yc .i64 (((a1.length):Int)-4))) fun v2=>Ya (Zoj k v2) fun v3=>bif !(v3==a1) then some ([],5) else some (v2,0)
def Zbl.con (k:Nat):Con:=Sig.con { ps:=[.val false .str (ros .str)],rs:=[.val false [.v .str],.val false [.v (.int .i64)]],ntmps:=18 } (fun x=>Zbl k x)
theorem Zbl.ok (k:Nat):Ze Yb 225 (Zbl.con k):=fA (cX (cC (Zoj.ok k) cN)) Tryz.func225
def Zen (k:Nat) (a1:Str):Option (Int×Str×Int):=Ya (Zbl k a1) fun v2=>bif v2.2 != 0 then some (0,[],v2.2) else Ya (Zgc k (v2.1,(0,false))) fun v3=>Ya (Z8g k v3.2) fun v4=>bif v4.2.2.2||(v4.2.2.1 != ((v2.1.length):Int)) then some (0,[],3) else Ya (Z3 v3.1 1 1000000) fun v5=>bif (!v5)||(decide (80<((v4.1.length):Int))) then some (0,[],3) else some (v3.1,v4.1,0)
def Zen.con (k:Nat):Con:=Sig.con { ps:=[.val false .str (ros .str)],rs:=[.val true [.v (.int .i64),.v .str,.v (.int .i64)]],ntmps:=51 } (fun x=>Zen k x)
theorem Zen.ok (k:Nat):Ze Yb 214 (Zen.con k):=fA (cX (cC (Z3.ok k) (cC (Zgc.ok k) (cC (Z8g.ok k) (cC (Zbl.ok k) cN))))) Tryz.func214
def Z2c.l0 (k:Nat):Nat→List Str→List Zq→Int→Int→Int→Str→Int→Option ((Int×Int×Str×Int))
 | 0,_,_,_,_,_,_,_=>none
 | j+1,a1,a2,a3,a4,a5,a6,a7=>bif decide (a4<2) then Ya (Zig k (a1,a2) a4) fun v8=>Ya (Zen k v8) fun v9=>let e10:=Yc .i64 (a4+1);bif (v9.2.2==0)&&((decide (a3<0))||(decide (a5<v9.1))) then Z2c.l0 k j a1 a2 a4 e10 v9.1 v9.2.1 v9.2.2 else Z2c.l0 k j a1 a2 a3 e10 a5 a6 a7 else some (a3,a5,a6,a7)
def Z2c (k:Nat) (a1:G26):Option (Int×Str×Int×Int):=Ya (Z2c.l0 k k a1.1 a1.2 (-1) 0 0 [] 6) fun y2=>some (y2.2.1,y2.2.2.1,y2.2.2.2,y2.1)
def Z2c.con (k:Nat):Con:=Sig.con { ps:=[.val true T26 (ros T26)],rs:=[.val true [.v (.int .i64),.v .str,.v (.int .i64)],.val false [.v (.int .i64)]],ntmps:=35 } (fun x=>Z2c k x)
def Z2c.cok (k:Nat):=cXr true false (cC (Zig.ok k) (cC (Zen.ok k) cN))
def Z2c.l0.s (k:Nat):Summ:=lp 35 { tmps:=[(1,.eptr [.bor .str,.bor Zo]),(4,.one (.ptr 1 0)),(5,.one (.v (.int .i64))),(9,.one (.v (.int .i64)))],slots:=[(1,.box 156 [.v (.int .i64),.v .str,.v (.int .i64)])],nb:=2 } [(.exit 0,{ tmps:=[(5,.one (.v (.int .i64)))],slots:=[(1,.box 156 [.v (.int .i64),.v .str,.v (.int .i64)])],nb:=2 })] (fun j x=>Z2c.l0 k j x.1 x.2.1 x.2.2.1 x.2.2.2.1 x.2.2.2.2.1 x.2.2.2.2.2.1 x.2.2.2.2.2.2) k
def Z2c.l0.ok (k:Nat):=(lA (Z2c.cok k):Zj Yb _ (.loop (cO (cO (cR (cL (cR (cR (cB Tryz.f121)))))))) (Z2c.l0.s k))
theorem Z2c.ok (k:Nat):Ze Yb 121 (Z2c.con k):=fP (.two .auto (.two .auto (.two (.two .auto (.one (.sum (Z2c.l0.s k)))) .auto))) (Z2c.cok k) Tryz.func121 (sC (Z2c.l0.ok k) sN)
def Zld.l0:Nat→Int→Int→List Int→Option ((List Int))
 | 0,_,_,_=>none
 | j+1,a1,a2,a3=>bif decide (a2<24) then Ya (Zwb a2) fun v4=>let e5:=Yc .i64 (a2+1);bif (intBits .and .i64 (shr .i64 a1 a2) 1)==1 then Ya (Zt 8 a3 [a2]) fun v6=>Zld.l0 j a1 e5 v6 else Zld.l0 j a1 e5 a3 else some a3
def Zld (k:Nat) (a1:Int):Option (List Int):=Ya (Zld.l0 k a1 0 []) fun y2=>some y2
def Zld.con (k:Nat):Con:=Sig.con { ps:=[.val false (.int .i64) (ros (.int .i64))],rs:=[.val false [.own 2 (.int .i64)]],ntmps:=19 } (fun x=>Zld k x)
def Zld.cok (k:Nat):=cX cN
def Zld.l0.s (k:Nat):Summ:=lp 19 { tmps:=[(0,.one (.v (.int .i64))),(3,.one (.own 0)),(5,.one (.v (.int .i64)))],slots:=[(0,.arr false 2 (.int .i64))],nb:=1 } [(.exit 0,{ tmps:=[(3,.one (.own 1))],slots:=[(1,.arr false 2 (.int .i64))],nb:=2 })] (fun j x=>Zld.l0 j x.1 x.2.1 x.2.2) k
def Zld.l0.ok (k:Nat):=(lA (Zld.cok k):Zj Yb _ (.loop (cO (cO (cR (cL (cR (cR (cB Tryz.f139)))))))) (Zld.l0.s k))
theorem Zld.ok (k:Nat):Ze Yb 139 (Zld.con k):=fP (.two .auto (.two .auto (.two (.two .auto (.one (.sum (Zld.l0.s k)))) .auto))) (Zld.cok k) Tryz.func139 (sC (Zld.l0.ok k) sN)
def Z1e.l0:Nat→List Int→List Int→Int→Int→Option (Unit ⊕ Bool)
 | 0,_,_,_,_=>none
 | j+1,a1,a2,a3,a4=>bif decide (a4<a3) then Ya (at? a2 a4) fun v5=>Ya (Z3 v5 0 23) fun v6=>bif !v6 then some (.inr false) else let e7:=Yc .i64 (a4+1);bif decide (0<a4) then Ya (at? a1 (Yc .i64 (a4-1))) fun v8=>bif decide (v5≤v8) then some (.inr false) else Z1e.l0 j a1 a2 a3 e7 else Z1e.l0 j a1 a2 a3 e7 else some (.inl ())
def Z1e (k:Nat) (a1:List Int):Option (Bool):=Ya (Z1e.l0 k a1 a1 ((a1.length):Int) 0) fun
  | .inl y2=>some true
  | .inr y3=>some y3
def Z1e.con (k:Nat):Con:=Sig.con { ps:=[.val false (.sl (.int .i64)) (ros (.sl (.int .i64)))],rs:=[.val false [.v .bool]],ntmps:=29 } (fun x=>Z1e k x)
def Z1e.cok (k:Nat):=cX (cC (Z3.ok k) cN)
def Z1e.l0.s (k:Nat):Summ:=lp 29 { tmps:=[(0,.one (.bor (.int .i64))),(5,.one (.bor (.int .i64))),(6,.one (.v (.int .i64))),(7,.one (.v (.int .i64)))],slots:=[],nb:=0 } [(.exit 0,{ tmps:=[],slots:=[],nb:=0 }),(.ret,{ tmps:=[(2,.one (.v .bool))],slots:=[],nb:=0 })] (fun j x=>Z1e.l0 j x.1 x.2.1 x.2.2.1 x.2.2.2) k
def Z1e.l0.ok (k:Nat):=(lA (Z1e.cok k):Zj Yb _ (.loop (cO (cO (cR (cL (cR (cB Tryz.f65))))))) (Z1e.l0.s k))
theorem Z1e.ok (k:Nat):Ze Yb 65 (Z1e.con k):=fP (.two .auto (.two (.two .auto (.one (.sum (Z1e.l0.s k)))) .auto)) (Z1e.cok k) Tryz.func65 (sC (Z1e.l0.ok k) sN)
def Zjk (a1:List Int):Option (Int):=some ((a1.length):Int)
def Zjk.con (k:Nat):Con:=Sig.con { ps:=[.val false (.sl (.int .i64)) (ros (.sl (.int .i64)))],rs:=[.val false [.v (.int .i64)]],ntmps:=5 } (fun x=>Zjk x)
theorem Zjk.ok (k:Nat):Ze Yb 137 (Zjk.con k):=fA (cX cN) Tryz.func137
def Zoc.l0:Nat→Int→List Int→Int→Int→Option (Int)
 | 0,_,_,_,_=>none
 | j+1,a1,a2,a3,a4=>bif decide (a4<a3) then Ya (at? a2 a4) fun v5=>Ya (Zwb v5) fun v6=>Zoc.l0 j (intBits .or .i64 a1 (shl .i64 1 v5)) a2 a3 (Yc .i64 (a4+1)) else some a1
def Zoc (k:Nat) (a1:List Int):Option (Int):=Ya (Zoc.l0 k 0 a1 ((a1.length):Int) 0) fun y2=>some y2
def Zoc.con (k:Nat):Con:=Sig.con { ps:=[.val false (.sl (.int .i64)) (ros (.sl (.int .i64)))],rs:=[.val false [.v (.int .i64)]],ntmps:=18 } (fun x=>Zoc k x)
def Zoc.cok (k:Nat):=cX cN
def Zoc.l0.s (k:Nat):Summ:=lp 18 { tmps:=[(3,.one (.v (.int .i64))),(6,.one (.bor (.int .i64))),(7,.one (.v (.int .i64))),(8,.one (.v (.int .i64)))],slots:=[],nb:=0 } [(.exit 0,{ tmps:=[(3,.one (.v (.int .i64)))],slots:=[],nb:=0 })] (fun j x=>Zoc.l0 j x.1 x.2.1 x.2.2.1 x.2.2.2) k
def Zoc.l0.ok (k:Nat):=(lA (Zoc.cok k):Zj Yb _ (.loop (cO (cO (cR (cL (cR (cR (cB Tryz.f140)))))))) (Zoc.l0.s k))
theorem Zoc.ok (k:Nat):Ze Yb 140 (Zoc.con k):=fP (.two .auto (.two .auto (.two (.two .auto (.one (.sum (Zoc.l0.s k)))) .auto))) (Zoc.cok k) Tryz.func140 (sC (Zoc.l0.ok k) sN)
def Zdq (k:Nat) (a1:G46):Option (Bool):=Ya (Z3 a1.1 1 5) fun v2=>bif !v2 then some false else Ya (Z1e k a1.2.2.2.2.2.2.1) fun v3=>bif !v3 then some false else Ya (Z1e k a1.2.2.2.2.2.2.2) fun v4=>bif !v4 then some false else Ya (Zoc k a1.2.2.2.2.2.2.1) fun v5=>Ya (Zoc k a1.2.2.2.2.2.2.2) fun v6=>bif (intBits .and .i64 v5 v6) != 0 then some false else let e7:=a1.2.1==0;let e8:=a1.2.2.2.2.1==0;bif a1.1==1 then some (((((e7&&(a1.2.2.1==0))&&(a1.2.2.2.1==0))&&e8)&&(a1.2.2.2.2.2.1==[]))&&(((a1.2.2.2.2.2.2.2.length):Int)==0)) else Ya (Z3 a1.2.2.1 1 20) fun v9=>bif v9 then Ya (Z3 a1.2.2.2.1 0 4) fun v10=>bif v10 then Ya (Zjk a1.2.2.2.2.2.2.2) fun v11=>bif v11==(Yc .i64 (a1.2.2.1+a1.2.2.2.1)) then bif ((a1.2.2.2.2.2.1.length):Int)==32 then Ya (Z3 a1.2.1 0 2) fun v12=>bif v12 then let e13:=a1.1==5;bif e7 then Ya (Z3 a1.2.2.2.2.1 0 40) fun v14=>bif v14 then bif e8 then some true else some e13 else some false else bif a1.1==4 then Ya (Z3 a1.2.2.2.2.1 0 40) fun v15=>bif v15 then bif e8 then some true else some e13 else some false else some false else some false else some false else some false else some false else some false
def Zdq.con (k:Nat):Con:=Sig.con { ps:=[.val true T46 (ros T46)],rs:=[.val false [.v .bool]],ntmps:=116 } (fun x=>Zdq k x)
theorem Zdq.ok (k:Nat):Ze Yb 217 (Zdq.con k):=fA (cXr true false (cC (Z1e.ok k) (cC (Z3.ok k) (cC (Zjk.ok k) (cC (Zoc.ok k) cN))))) Tryz.func217
def Zlq (k:Nat) (a1:Str):Option (Int×Int×Int×Int×Int×Str×List Int×List Int×Bool):=Ya (Zgc k (a1,(0,false))) fun v2=>Ya (Zgc k v2.2) fun v3=>Ya (Zgc k v3.2) fun v4=>Ya (Zgc k v4.2) fun v5=>Ya (Zgc k v5.2) fun v6=>Ya (Zgc k v6.2) fun v7=>Ya (Zgc k v7.2) fun v8=>Ya (Z8g k v8.2) fun v9=>bif v9.2.2.2||(v9.2.2.1 != ((a1.length):Int)) then some (0,0,0,0,0,[],[],[],false) else Ya (Z3 v7.1 0 16777215) fun v10=>bif !v10 then some (0,0,0,0,0,[],[],[],false) else Ya (Z3 v8.1 0 16777215) fun v11=>bif !v11 then some (0,0,0,0,0,[],[],[],false) else Ya (Zld k v7.1) fun v12=>Ya (Zld k v8.1) fun v13=>Ya (Zdq k (v2.1,(v3.1,(v4.1,(v5.1,(v6.1,(v9.1,(v12,v13)))))))) fun v14=>bif !v14 then some (0,0,0,0,0,[],[],[],false) else some (v2.1,v3.1,v4.1,v5.1,v6.1,v9.1,v12,v13,true)
def Zlq.con (k:Nat):Con:=Sig.con { ps:=[.val false .str (ros .str)],rs:=[.val true [.v (.int .i64),.v (.int .i64),.v (.int .i64),.v (.int .i64),.v (.int .i64),.v .str,.own 2 (.int .i64),.own 2 (.int .i64)],.val false [.v .bool]],ntmps:=64 } (fun x=>Zlq k x)
theorem Zlq.ok (k:Nat):Ze Yb 122 (Zlq.con k):=fA (cX (cC (Z3.ok k) (cC (Zld.ok k) (cC (Zgc.ok k) (cC (Z8g.ok k) (cC (Zdq.ok k) cN)))))) Tryz.func122
def Zsg (k:Nat) (a1:G28):Option (Int×Int×Int×Int×Int×Str×List Int×List Int×Bool):=Ya (Zhk a1.1) fun v2=>bif !v2 then some (0,0,0,0,0,[],[],[],false) else Ya (Z0e k a1.2) fun v3=>bif !v3 then some (0,0,0,0,0,[],[],[],false) else Ya (Zzi a1.2.1) fun v4=>bif v4 != (Yc .i64 ((Yc .i64 (3+a1.1))+24)) then some (0,0,0,0,0,[],[],[],false) else Ya (Z2c k a1.2) fun v5=>bif decide (v5.2.2.2<0) then some (0,0,0,0,0,[],[],[],false) else Ya (Zlq k v5.2.1) fun v6=>some (v6.1,v6.2.1,v6.2.2.1,v6.2.2.2.1,v6.2.2.2.2.1,v6.2.2.2.2.2.1,v6.2.2.2.2.2.2.1,v6.2.2.2.2.2.2.2.1,v6.2.2.2.2.2.2.2.2)
def Zsg.con (k:Nat):Con:=Sig.con { ps:=[.val true T28 (ros T28)],rs:=[.val true [.v (.int .i64),.v (.int .i64),.v (.int .i64),.v (.int .i64),.v (.int .i64),.v .str,.own 2 (.int .i64),.own 2 (.int .i64)],.val false [.v .bool]],ntmps:=42 } (fun x=>Zsg k x)
theorem Zsg.ok (k:Nat):Ze Yb 59 (Zsg.con k):=fA (cXr true false (cC (Zhk.ok k) (cC (Zzi.ok k) (cC (Z0e.ok k) (cC (Z2c.ok k) (cC (Zlq.ok k) cN)))))) Tryz.func59
def Z1h (a1:G28) (a2:Int):Option (Int):=some (Yc .i64 ((Yc .i64 (3+a1.1))+a2))
def Z1h.con (k:Nat):Con:=Sig.con { ps:=[.val true T28 (ros T28),.val false (.int .i64) (ros (.int .i64))],rs:=[.val false [.v (.int .i64)]],ntmps:=10 } (fun x=>Z1h x.1 x.2)
theorem Z1h.ok (k:Nat):Ze Yb 145 (Z1h.con k):=fA (cXr true false cN) Tryz.func145
def Zmj (k:Nat) (a1:G28) (a2:Int):Option (Str):=Ya (Z1h a1 a2) fun v3=>Ya (Zig k a1.2 v3) fun v4=>some v4
def Zmj.con (k:Nat):Con:=Sig.con { ps:=[.val true T28 (ros T28),.val false (.int .i64) (ros (.int .i64))],rs:=[.val false [.v .str]],ntmps:=11 } (fun x=>Zmj k x.1 x.2)
theorem Zmj.ok (k:Nat):Ze Yb 144 (Zmj.con k):=fA (cXr true false (cC (Zig.ok k) (cC (Z1h.ok k) cN))) Tryz.func144
def Zyi (a1:Int):Option (Bool):=Ya (Z3 a1 0 1000000) fun v2=>some v2
def Zyi.con (k:Nat):Con:=Sig.con { ps:=[.val false (.int .i64) (ros (.int .i64))],rs:=[.val false [.v .bool]],ntmps:=5 } (fun x=>Zyi x)
theorem Zyi.ok (k:Nat):Ze Yb 125 (Zyi.con k):=fA (cX (cC (Z3.ok k) cN)) Tryz.func125
def Zqc.j0 (a1:Int) (a2:Bool) (a3:Int) (a4:Int) (a5:Int) (a6:Str):Option ((Bool×Int×Int×Int×Str)):=bif (a3==3)||(a3==4) then Ya (Z3 a5 0 (Yc .i64 (a1-1))) fun v7=>some (v7,a3,a4,a5,a6) else some (a2,a3,a4,a5,a6)
def Zqc.j1 (a1:Bool) (a2:Int) (a3:Int) (a4:Int) (a5:Str):Option ((Bool×Int×Int×Int×Str)):=bif (a2==2)||(a2==4) then some (((a5.length):Int)==8,a2,a3,a4,a5) else some (a1,a2,a3,a4,a5)
def Zqc (a1:G52) (a2:Int):Option (Bool):=Ya (Z3 a1.2.1 0 (Yc .i64 (a2-1))) fun v3=>Ya (Zqc.j0 a2 (a1.2.2.1==0) a1.1 a1.2.1 a1.2.2.1 a1.2.2.2) fun y4=>Ya (Zqc.j1 (a1.2.2.2==[]) y4.2.1 y4.2.2.1 y4.2.2.2.1 y4.2.2.2.2) fun y5=>bif y5.2.1==5 then Ya (Zyi y5.2.2.2.1) fun v6=>Ya (Z3 y5.2.1 1 5) fun v7=>some (((v7&&(y5.2.2.1==0))&&v6)&&y5.1) else Ya (Z3 y5.2.1 1 5) fun v8=>some (((v8&&v3)&&y4.1)&&y5.1)
def Zqc.con (k:Nat):Con:=Sig.con { ps:=[.val true T52 (ros T52),.val false (.int .i64) (ros (.int .i64))],rs:=[.val false [.v .bool]],ntmps:=65 } (fun x=>Zqc x.1 x.2)
def Zqc.cok (k:Nat):=cX (cC (Z3.ok k) (cC (Zyi.ok k) cN))
def Zqc.j0.s (k:Nat):Summ:=lq 65 { tmps:=[(1,.one (.v (.int .i64))),(2,.one (.ptr 0 0)),(6,.one (.v .bool))],slots:=[(0,.box 52 [.v (.int .i64),.v (.int .i64),.v (.int .i64),.v .str])],nb:=1 } [(.nrm,{ tmps:=[(6,.one (.v .bool))],slots:=[(0,.box 52 [.v (.int .i64),.v (.int .i64),.v (.int .i64),.v .str])],nb:=1 })] (fun x=>Zqc.j0 x.1 x.2.1 x.2.2.1 x.2.2.2.1 x.2.2.2.2.1 x.2.2.2.2.2)
def Zqc.j0.ok (k:Nat):=(jA (Zqc.cok k):Zj Yb _ (cL (cR (cR (cB Yq)))) (Zqc.j0.s k))
def Zqc.j1.s (k:Nat):Summ:=lq 65 { tmps:=[(2,.one (.ptr 0 0)),(7,.one (.v .bool))],slots:=[(0,.box 52 [.v (.int .i64),.v (.int .i64),.v (.int .i64),.v .str])],nb:=1 } [(.nrm,{ tmps:=[(7,.one (.v .bool))],slots:=[(0,.box 52 [.v (.int .i64),.v (.int .i64),.v (.int .i64),.v .str])],nb:=1 })] (fun x=>Zqc.j1 x.1 x.2.1 x.2.2.1 x.2.2.2.1 x.2.2.2.2)
def Zqc.j1.ok (k:Nat):=(jA (Zqc.cok k):Zj Yb _ (cL (cR (cR (cR (cB Yq))))) (Zqc.j1.s k))
theorem Zqc.ok (k:Nat):Ze Yb 124 (Zqc.con k):=fP (.two .auto (.two .auto (.two (.sum (Zqc.j0.s k)) (.two (.sum (Zqc.j1.s k)) .auto)))) (Zqc.cok k) Tryz.func124 (sC (Zqc.j0.ok k) (sC (Zqc.j1.ok k) sN))
def Zjq (k:Nat) (a1:Z0v):Option (Int×Int×Int×Str×Str×Int×Bool):=Ya (Zgc k a1) fun v2=>Ya (Zgc k v2.2) fun v3=>Ya (Zgc k v3.2) fun v4=>Ya (Z8g k v4.2) fun v5=>some (v2.1,v3.1,v4.1,v5.1,v5.2.1,v5.2.2.1,v5.2.2.2)
def Zjq.con (k:Nat):Con:=Sig.con { ps:=[.ref 234 Zzk (Z9g Zzk)],rs:=[.val true [.v (.int .i64),.v (.int .i64),.v (.int .i64),.v .str]],ntmps:=12 } (fun x=>Zjq k x)
theorem Zjq.ok (k:Nat):Ze Yb 293 (Zjq.con k):=fA (cX (cC (Zgc.ok k) (cC (Z8g.ok k) cN))) Tryz.func293
def Zfn (k:Nat) (a1:Str) (a2:Int):Option (Int×Int×Int×Str×Int):=Ya (Zbl k a1) fun v3=>bif v3.2 != 0 then some (0,0,0,[],v3.2) else Ya (Zgc k (v3.1,(0,false))) fun v4=>Ya (Zjq k v4.2) fun v5=>bif v5.2.2.2.2.2.2||(v5.2.2.2.2.2.1 != ((v3.1.length):Int)) then some (0,0,0,[],3) else Ya (Zyi v4.1) fun v6=>bif !v6 then some (0,0,0,[],3) else Ya (Zqc (v5.1,(v5.2.1,(v5.2.2.1,v5.2.2.2.1))) 8) fun v7=>bif !v7 then some (0,0,0,[],3) else bif v4.1 != a2 then some (0,0,0,[],6) else some (v5.1,v5.2.1,v5.2.2.1,v5.2.2.2.1,0)
def Zfn.con (k:Nat):Con:=Sig.con { ps:=[.val false .str (ros .str),.val false (.int .i64) (ros (.int .i64))],rs:=[.val true [.v (.int .i64),.v (.int .i64),.v (.int .i64),.v .str],.val false [.v (.int .i64)]],ntmps:=58 } (fun x=>Zfn k x.1 x.2)
theorem Zfn.ok (k:Nat):Ze Yb 261 (Zfn.con k):=fA (cX (cC (Zqc.ok k) (cC (Zyi.ok k) (cC (Zgc.ok k) (cC (Zbl.ok k) (cC (Zjq.ok k) cN)))))) Tryz.func261
def Zzf.l0 (k:Nat):Nat→List Str→Int→Int→List G52→Option ((List G52))
 | 0,_,_,_,_=>none
 | j+1,a1,a2,a3,a4=>bif decide (a3<a2) then Ya (at? a1 a3) fun v5=>Ya (Zfn k v5 a3) fun v6=>bif v6.2.2.2.2 != 0 then some a4 else Ya (Zt 40 a4 [(v6.1,(v6.2.1,(v6.2.2.1,v6.2.2.2.1)))]) fun v7=>Zzf.l0 k j a1 a2 (Yc .i64 (a3+1)) v7 else some a4
def Zzf (k:Nat) (a1:List Str):Option (List G52):=Ya (Zzf.l0 k k a1 ((a1.length):Int) 0 []) fun y2=>some y2
def Zzf.con (k:Nat):Con:=Sig.con { ps:=[.val false (.sl .str) (ros (.sl .str))],rs:=[.val false [.own 52 T52]],ntmps:=29 } (fun x=>Zzf k x)
def Zzf.cok (k:Nat):=cX (cC (Zfn.ok k) cN)
def Zzf.l0.s (k:Nat):Summ:=lp 29 { tmps:=[(3,.one (.own 0)),(8,.one (.bor .str)),(9,.one (.v (.int .i64))),(10,.one (.v (.int .i64)))],slots:=[(0,.arr false 52 T52)],nb:=1 } [(.exit 0,{ tmps:=[(3,.one (.own 1))],slots:=[(1,.arr false 52 T52)],nb:=2 })] (fun j x=>Zzf.l0 k j x.1 x.2.1 x.2.2.1 x.2.2.2) k
def Zzf.l0.ok (k:Nat):=(lA (Zzf.cok k):Zj Yb _ (.loop (cO (cO (cR (cL (cR (cR (cB Tryz.f195)))))))) (Zzf.l0.s k))
theorem Zzf.ok (k:Nat):Ze Yb 195 (Zzf.con k):=fP (.two .auto (.two .auto (.two (.two .auto (.one (.sum (Zzf.l0.s k)))) .auto))) (Zzf.cok k) Tryz.func195 (sC (Zzf.l0.ok k) sN)
def Zad.l0 (k:Nat):Nat→Int→List Str→List Zq→List Int→Int→Int→List Str→Option ((List Str))
 | 0,_,_,_,_,_,_,_=>none
 | j+1,a1,a2,a3,a4,a5,a6,a7=>bif decide (a6<a5) then Ya (at? a4 a6) fun v8=>Ya (Zmj k (a1,(a2,a3)) v8) fun v9=>Ya (Zt 16 a7 [v9]) fun v10=>Zad.l0 k j a1 a2 a3 a4 a5 (Yc .i64 (a6+1)) v10 else some a7
def Zad (k:Nat) (a1:G28) (a2:G46):Option (List G52):=Ya (Zpb a2.2.2.2.2.2.2.2 a2.2.2.2.1 ((a2.2.2.2.2.2.2.2.length):Int)) fun v3=>Ya (Zad.l0 k k a1.1 a1.2.1 a1.2.2 v3 ((v3.length):Int) 0 []) fun y4=>Ya (Zzf k y4) fun v5=>some v5
def Zad.con (k:Nat):Con:=Sig.con { ps:=[.val true T28 (ros T28),.val true T46 (ros T46)],rs:=[.val false [.own 52 T52]],ntmps:=27 } (fun x=>Zad k x.1 x.2)
def Zad.cok (k:Nat):=cXr true false (cC (Zmj.ok k) (cC (Zzf.ok k) cN))
def Zad.l0.s (k:Nat):Summ:=lp 27 { tmps:=[(2,.eptr [.v (.int .i64),.bor .str,.bor Zo]),(5,.one (.own 0)),(12,.one (.bor (.int .i64))),(13,.one (.v (.int .i64))),(14,.one (.v (.int .i64)))],slots:=[(0,.arr false 9 .str)],nb:=1 } [(.exit 0,{ tmps:=[(5,.one (.own 1))],slots:=[(1,.arr false 9 .str)],nb:=2 })] (fun j x=>Zad.l0 k j x.1 x.2.1 x.2.2.1 x.2.2.2.1 x.2.2.2.2.1 x.2.2.2.2.2.1 x.2.2.2.2.2.2) k
def Zad.l0.ok (k:Nat):=(lA (Zad.cok k):Zj Yb _ (.loop (cO (cO (cR (cL (cR (cR (cB Tryz.f108)))))))) (Zad.l0.s k))
theorem Zad.ok (k:Nat):Ze Yb 108 (Zad.con k):=fP (.two .auto (.two .auto (.two (.two .auto (.one (.sum (Zad.l0.s k)))) .auto))) (Zad.cok k) Tryz.func108 (sC (Zad.l0.ok k) sN)
def Znq (a1:G52) (a2:Int):Option (Bool):=Ya (Zqc a1 a2) fun v3=>some (!v3)
def Znq.con (k:Nat):Con:=Sig.con { ps:=[.val true T52 (ros T52),.rptr (.int .i64)],rs:=[.val false [.v .bool]],ntmps:=8 } (fun x=>Znq x.1 x.2)
theorem Znq.ok (k:Nat):Ze Yb 197 (Znq.con k):=fA (cX (cC (Zqc.ok k) cN)) Tryz.func197
def Z4d.l0:Nat→List G52→Int→Int→Int→Option (Int ⊕ (Int×Int))
 | 0,_,_,_,_=>none
 | j+1,a1,a2,a3,a4=>bif decide (a3<a2) then Ya (at? a1 a3) fun v5=>Ya (Znq v5 a4) fun v6=>bif v6 then some (.inr (a3,a4)) else Z4d.l0 j a1 a2 (Yc .i64 (a3+1)) a4 else some (.inl a4)
def Z4d (k:Nat) (a1:List G52) (a2:Int):Option (Int×Int):=Ya (Z4d.l0 k a1 ((a1.length):Int) 0 a2) fun
  | .inl y3=>some ((-1),y3)
  | .inr y4=>some (y4.1,y4.2)
def Z4d.con (k:Nat):Con:=Sig.con { ps:=[.val false (.sl T52) (ros (.sl T52)),.fn 197 [(2,(.int .i64),(Z9g (.int .i64)))]],rs:=[.val false [.v (.int .i64)]],ntmps:=19 } (fun x=>Z4d k x.1 x.2)
def Z4d.cok (k:Nat):=cX (cC (Znq.ok k) cN)
def Z4d.l0.s (k:Nat):Summ:=lp 19 { tmps:=[(0,.one (.bor T52)),(1,.fn 197 [.ptr 0 0]),(7,.one (.v (.int .i64))),(8,.one (.v (.int .i64)))],slots:=[(0,.box 2 [.v (.int .i64)])],nb:=1 } [(.exit 0,{ tmps:=[],slots:=[(0,.box 2 [.v (.int .i64)])],nb:=1 }),(.ret,{ tmps:=[(4,.one (.v (.int .i64)))],slots:=[(0,.box 2 [.v (.int .i64)])],nb:=1 })] (fun j x=>Z4d.l0 j x.1 x.2.1 x.2.2.1 x.2.2.2) k
def Z4d.l0.ok (k:Nat):=(lA (Z4d.cok k):Zj Yb _ (.loop (cO (cO (cR (cL (cR (cB Yi))))))) (Z4d.l0.s k))
theorem Z4d.ok (k:Nat):Ze Yb 262 (Z4d.con k):=fP (.two .auto (.two (.two .auto (.one (.sum (Z4d.l0.s k)))) .auto)) (Z4d.cok k) Yj (sC (Z4d.l0.ok k) sN)
def Zir (k:Nat) (a1:List G52) (a2:Int):Option (Bool×Int):=Ya (Z4d k a1 a2) fun v3=>some (decide (0≤v3.1),v3.2)
def Zir.con (k:Nat):Con:=Sig.con { ps:=[.val false (.sl T52) (ros (.sl T52)),.fn 197 [(2,(.int .i64),(Z9g (.int .i64)))]],rs:=[.val false [.v .bool]],ntmps:=9 } (fun x=>Zir k x.1 x.2)
theorem Zir.ok (k:Nat):Ze Yb 196 (Zir.con k):=fA (cX (cC (Z4d.ok k) cN)) Tryz.func196
def Z4s (a1:G52) (a2:Int):Option (Bool):=some ((a1.1 != 5)&&(a1.2.1==a2))
def Z4s.con (k:Nat):Con:=Sig.con { ps:=[.val true T52 (ros T52),.rptr (.int .i64)],rs:=[.val false [.v .bool]],ntmps:=13 } (fun x=>Z4s x.1 x.2)
theorem Z4s.ok (k:Nat):Ze Yb 263 (Z4s.con k):=fA (cX cN) Tryz.func263
def Z5d.l0:Nat→List G52→Int→Int→Int→Option (Int ⊕ (Int×Int))
 | 0,_,_,_,_=>none
 | j+1,a1,a2,a3,a4=>bif decide (a3<a2) then Ya (at? a1 a3) fun v5=>Ya (Z4s v5 a4) fun v6=>bif v6 then some (.inr (a3,a4)) else Z5d.l0 j a1 a2 (Yc .i64 (a3+1)) a4 else some (.inl a4)
def Z5d (k:Nat) (a1:List G52) (a2:Int):Option (Int×Int):=Ya (Z5d.l0 k a1 ((a1.length):Int) 0 a2) fun
  | .inl y3=>some ((-1),y3)
  | .inr y4=>some (y4.1,y4.2)
def Z5d.con (k:Nat):Con:=Sig.con { ps:=[.val false (.sl T52) (ros (.sl T52)),.fn 263 [(2,(.int .i64),(Z9g (.int .i64)))]],rs:=[.val false [.v (.int .i64)]],ntmps:=19 } (fun x=>Z5d k x.1 x.2)
def Z5d.cok (k:Nat):=cX (cC (Z4s.ok k) cN)
def Z5d.l0.s (k:Nat):Summ:=lp 19 { tmps:=[(0,.one (.bor T52)),(1,.fn 263 [.ptr 0 0]),(7,.one (.v (.int .i64))),(8,.one (.v (.int .i64)))],slots:=[(0,.box 2 [.v (.int .i64)])],nb:=1 } [(.exit 0,{ tmps:=[],slots:=[(0,.box 2 [.v (.int .i64)])],nb:=1 }),(.ret,{ tmps:=[(4,.one (.v (.int .i64)))],slots:=[(0,.box 2 [.v (.int .i64)])],nb:=1 })] (fun j x=>Z5d.l0 j x.1 x.2.1 x.2.2.1 x.2.2.2) k
def Z5d.l0.ok (k:Nat):=(lA (Z5d.cok k):Zj Yb _ (.loop (cO (cO (cR (cL (cR (cB Yi))))))) (Z5d.l0.s k))
theorem Z5d.ok (k:Nat):Ze Yb 262 (Z5d.con k):=fP (.two .auto (.two (.two .auto (.one (.sum (Z5d.l0.s k)))) .auto)) (Z5d.cok k) Yj (sC (Z5d.l0.ok k) sN)
def Zoq (k:Nat) (a1:List G52) (a2:Int):Option (Int):=Ya (Z5d k a1 a2) fun v3=>some v3.1
def Zoq.con (k:Nat):Con:=Sig.con { ps:=[.val false (.sl T52) (ros (.sl T52)),.val false (.int .i64) (ros (.int .i64))],rs:=[.val false [.v (.int .i64)]],ntmps:=8 } (fun x=>Zoq k x.1 x.2)
theorem Zoq.ok (k:Nat):Ze Yb 198 (Zoq.con k):=fA (cX (cC (Z5d.ok k) cN)) Tryz.func198
def Zgd.l0 (k:Nat):Nat→List G52→Int→Bool→List G52→Int→Int→Option (Bool ⊕ Int)
 | 0,_,_,_,_,_,_=>none
 | j+1,a1,a2,a3,a4,a5,a6=>bif decide (a6<a5) then Ya (at? a4 a6) fun v7=>let e8:=Yc .i64 (a6+1);bif v7.1 != 5 then Ya (Zoq k a1 v7.2.1) fun v9=>bif decide (v9<a6) then some (.inr 12) else Zgd.l0 k j a1 a2 a3 a4 a5 e8 else Zgd.l0 k j a1 v7.2.2.1 (a3&&(decide (a2<v7.2.2.1))) a4 a5 e8 else some (.inl a3)
def Zgd (k:Nat) (a1:List G52) (a2:Int):Option (Int):=Ya (Zhk a2) fun v3=>bif (!v3)||(decide (20<((a1.length):Int))) then some 1 else Ya (Zir k a1 a2) fun v4=>bif v4.1 then some 1 else Ya (Zgd.l0 k k a1 (-1) true a1 ((a1.length):Int) 0) fun
  | .inl y5=>bif !y5 then some 8 else some 0
  | .inr y6=>some y6
def Zgd.con (k:Nat):Con:=Sig.con { ps:=[.val false (.sl T52) (ros (.sl T52)),.val false (.int .i64) (ros (.int .i64))],rs:=[.val false [.v (.int .i64)]],ntmps:=50 } (fun x=>Zgd k x.1 x.2)
def Zgd.cok (k:Nat):=cX (cC (Zhk.ok k) (cC (Zir.ok k) (cC (Zoq.ok k) cN)))
def Zgd.l0.s (k:Nat):Summ:=lp 50 { tmps:=[(0,.one (.bor T52)),(5,.one (.v (.int .i64))),(6,.one (.v .bool)),(22,.one (.bor T52)),(23,.one (.v (.int .i64))),(24,.one (.v (.int .i64)))],slots:=[],nb:=1 } [(.exit 0,{ tmps:=[(6,.one (.v .bool))],slots:=[],nb:=1 }),(.ret,{ tmps:=[(4,.one (.v (.int .i64)))],slots:=[],nb:=1 })] (fun j x=>Zgd.l0 k j x.1 x.2.1 x.2.2.1 x.2.2.2.1 x.2.2.2.2.1 x.2.2.2.2.2) k
def Zgd.l0.ok (k:Nat):=(lA (Zgd.cok k):Zj Yb _ (.loop (cO (cO (cR (cL (cR (cR (cR (cR (cB Tryz.f109)))))))))) (Zgd.l0.s k))
theorem Zgd.ok (k:Nat):Ze Yb 109 (Zgd.con k):=fP (.two .auto (.two .auto (.two .auto (.two .auto (.two (.two .auto (.one (.sum (Zgd.l0.s k)))) .auto))))) (Zgd.cok k) Tryz.func109 (sC (Zgd.l0.ok k) sN)
def Z6l (a1:G52):Option (Bool):=some (a1.1==5)
def Z6l.con (k:Nat):Con:=Sig.con { ps:=[.val true T52 (ros T52)],rs:=[.val false [.v .bool]],ntmps:=6 } (fun x=>Z6l x)
theorem Z6l.ok (k:Nat):Ze Yb 210 (Z6l.con k):=fA (cX cN) Tryz.func210
def Z6d.l0:Nat→List G52→Int→Int→Option (Unit ⊕ Int)
 | 0,_,_,_=>none
 | j+1,a1,a2,a3=>bif decide (a3<a2) then Ya (at? a1 a3) fun v4=>Ya (Z6l v4) fun v5=>bif v5 then some (.inr a3) else Z6d.l0 j a1 a2 (Yc .i64 (a3+1)) else some (.inl ())
def Z6d (k:Nat) (a1:List G52):Option (Int):=Ya (Z6d.l0 k a1 ((a1.length):Int) 0) fun
  | .inl y2=>some (-1)
  | .inr y3=>some y3
def Z6d.con (k:Nat):Con:=Sig.con { ps:=[.val false (.sl T52) (ros (.sl T52)),.fn 210 []],rs:=[.val false [.v (.int .i64)]],ntmps:=19 } (fun x=>Z6d k x)
def Z6d.cok (k:Nat):=cX (cC (Z6l.ok k) cN)
def Z6d.l0.s (k:Nat):Summ:=lp 19 { tmps:=[(0,.one (.bor T52)),(1,.fn 210 []),(7,.one (.v (.int .i64))),(8,.one (.v (.int .i64)))],slots:=[],nb:=0 } [(.exit 0,{ tmps:=[],slots:=[],nb:=0 }),(.ret,{ tmps:=[(4,.one (.v (.int .i64)))],slots:=[],nb:=0 })] (fun j x=>Z6d.l0 j x.1 x.2.1 x.2.2) k
def Z6d.l0.ok (k:Nat):=(lA (Z6d.cok k):Zj Yb _ (.loop (cO (cO (cR (cL (cR (cB Yi))))))) (Z6d.l0.s k))
theorem Z6d.ok (k:Nat):Ze Yb 262 (Z6d.con k):=fP (.two .auto (.two (.two .auto (.one (.sum (Z6d.l0.s k)))) .auto)) (Z6d.cok k) Yj (sC (Z6d.l0.ok k) sN)
def Zlg.l0:Nat→Int→Int→List G52→Option ((Int×List G52))
 | 0,_,_,_=>none
 | j+1,a1,a2,a3=>bif decide (a2<((a3.length):Int)) then Ya (at? a3 a2) fun v4=>Ya (at? a3 a2) fun v5=>Ya (Z6l v5) fun v6=>let e7:=Yc .i64 (a2+1);bif !v6 then Ya (at? a3 a1) fun v8=>Ya (at? a3 a1) fun v9=>Zlg.l0 j (Yc .i64 (a1+1)) e7 (Ye a3 (Yd a1) v5) else Zlg.l0 j a1 e7 a3 else some (a1,a3)
def Zlg (k:Nat) (a1:List G52):Option (List G52):=Ya (Z6d k a1) fun v2=>bif v2==(-1) then some a1 else Ya (Zlg.l0 k v2 (Yc .i64 (v2+1)) a1) fun y3=>Ya (Zky y3.1 (y3.2.length)) fun v4=>Ya (Zpb (List.take (Yd y3.1) y3.2++Yo (List.length y3.2-Yd y3.1) (0,(0,(0,[])))) 0 y3.1) fun v5=>some v5
def Zlg.con (k:Nat):Con:=Sig.con { ps:=[.mv 52 T52,.fn 210 []],rs:=[.val false [.v (.sl T52)]],ntmps:=42 } (fun x=>Zlg k x)
def Zlg.cok (k:Nat):=cXr false true (cC (Z6l.ok k) (cC (Z6d.ok k) cN))
def Zlg.l0.s (k:Nat):Summ:=lp 42 { tmps:=[(0,.one (.own 1)),(1,.fn 210 []),(5,.one (.v (.int .i64))),(6,.one (.v (.int .i64)))],slots:=[(1,.arr false 52 T52)],nb:=2 } [(.exit 0,{ tmps:=[(0,.one (.own 2)),(5,.one (.v (.int .i64)))],slots:=[(2,.arr false 52 T52)],nb:=3 })] (fun j x=>Zlg.l0 j x.1 x.2.1 x.2.2) k
def Zlg.l0.ok (k:Nat):=(lA (Zlg.cok k):Zj Yb _ (.loop (cO (cO (cR (cL (cR (cR (cR (cB Tryz.f208))))))))) (Zlg.l0.s k))
theorem Zlg.ok (k:Nat):Ze Yb 208 (Zlg.con k):=fP (.two .auto (.two .auto (.two .auto (.two (.two .auto (.one (.sum (Zlg.l0.s k)))) .auto)))) (Zlg.cok k) Tryz.func208 (sC (Zlg.l0.ok k) sN)
def Zyj (a:List G52):Option (List G52):=Ya (Zt 40 [] a) fun y=>some y
def Zyj.sig:Sig:={ ps:=[.val false (.sl T52) (ros (.sl T52))],rs:=[.val false [.own 52 T52]],ntmps:=8 }
def Zyj.con (k:Nat):Con:=Zyj.sig.con (fun x=>Zyj x)
theorem Zyj.ok (k:Nat):Ze Yb 209 (Zyj.con k):=
 Zjz (e:=52) (C:={ ti:=TAB,con:=Z3l [] }) (s:=Zyj.sig) (G:=fun x=>Zyj x) (Zdu Z6t trivial) Tryz.func209 (by kernel_rfl) rfl (by kernel_rfl) (by kernel_rfl) (by kernel_rfl) rfl rfl rfl rfl rfl rfl (by kernel_rfl) (by kernel_rfl)
  (fun x=>⟨_,_,.inl rfl⟩) (fun x y h=>Eq.trans (b:=Zyj x) (by kernel_rfl) h) (fun x y h hl=>by
   have e:x=([]:List G52):=hl T52 x (.inl (by kernel_rfl));subst e;exact Eq.trans (b:=Zyj []) (by kernel_rfl) h)
def Zqj (k:Nat) (a1:List G52):Option (List G52):=Ya (Zyj a1) fun v2=>Ya (Zlg k v2) fun v3=>some v3
def Zqj.con (k:Nat):Con:=Sig.con { ps:=[.val false (.sl T52) (ros (.sl T52))],rs:=[.val false [.v (.sl T52)]],ntmps:=6 } (fun x=>Zqj k x)
theorem Zqj.ok (k:Nat):Ze Yb 117 (Zqj.con k):=fA (cX (cC (Zlg.ok k) (cC (Zyj.ok k) cN))) Tryz.func117
def Ztu (a1:G52) (a2:Int):Option (Bool):=some (((a1.1==3)||(a1.1==4))&&(a1.2.2.1==a2))
def Ztu.con (k:Nat):Con:=Sig.con { ps:=[.val true T52 (ros T52),.val false (.int .i64) (ros (.int .i64))],rs:=[.val false [.v .bool]],ntmps:=19 } (fun x=>Ztu x.1 x.2)
theorem Ztu.ok (k:Nat):Ze Yb 203 (Ztu.con k):=fA (cX cN) Tryz.func203
def Ziq (a1:Int) (a2:Int) (a3:List G52) (a4:Int):Option (Bool):=bif a1 != a2 then Ya (at? a3 a1) fun v5=>Ya (Ztu v5 a4) fun v6=>some v6 else some false
def Ziq.con (k:Nat):Con:=Sig.con { ps:=[.val false (.int .i64) (ros (.int .i64)),.rptr (.int .i64),.rptr (.sl T52),.rptr (.int .i64)],rs:=[.val false [.v .bool]],ntmps:=17 } (fun x=>Ziq x.1 x.2.1 x.2.2.1 x.2.2.2)
theorem Ziq.ok (k:Nat):Ze Yb 202 (Ziq.con k):=fA (cX (cC (Ztu.ok k) cN)) Tryz.func202
def Z9d.l0:Nat→List Int→List G52→Int→Int→Int→Int→Option ((Int×Int) ⊕ (Int×Int×Int))
 | 0,_,_,_,_,_,_=>none
 | j+1,a1,a2,a3,a4,a5,a6=>bif decide (a4<a3) then Ya (at? a1 a4) fun v7=>Ya (Ziq v7 a5 a2 a6) fun v8=>bif v8 then some (.inr (a4,a5,a6)) else Z9d.l0 j a1 a2 a3 (Yc .i64 (a4+1)) a5 a6 else some (.inl (a5,a6))
def Z9d (k:Nat) (a1:List Int) (a2:Int) (a3:List G52) (a4:Int):Option (Int×Int×Int):=Ya (Z9d.l0 k a1 a3 ((a1.length):Int) 0 a2 a4) fun
  | .inl y5=>some ((-1),y5.1,y5.2)
  | .inr y6=>some (y6.1,y6.2.1,y6.2.2)
def Z9d.con (k:Nat):Con:=Sig.con { ps:=[.val false (.sl (.int .i64)) (ros (.sl (.int .i64))),.fn 202 [(3,(.int .i64),(Z9g (.int .i64))),(4000000,(.sl T52),[.ro]),(2,(.int .i64),(Z9g (.int .i64)))]],rs:=[.val false [.v (.int .i64)]],ntmps:=19 } (fun x=>Z9d k x.1 x.2.1 x.2.2.1 x.2.2.2)
def Z9d.cok (k:Nat):=cX (cC (Ziq.ok k) cN)
def Z9d.l0.s (k:Nat):Summ:=lp 19 { tmps:=[(0,.one (.bor (.int .i64))),(1,.fn 202 [.ptr 0 0,.rp (.sl T52),.ptr 1 0]),(7,.one (.v (.int .i64))),(8,.one (.v (.int .i64)))],slots:=[(0,.box 3 [.v (.int .i64)]),(1,.box 2 [.v (.int .i64)])],nb:=2 } [(.exit 0,{ tmps:=[],slots:=[(0,.box 3 [.v (.int .i64)]),(1,.box 2 [.v (.int .i64)])],nb:=2 }),(.ret,{ tmps:=[(4,.one (.v (.int .i64)))],slots:=[(0,.box 3 [.v (.int .i64)]),(1,.box 2 [.v (.int .i64)])],nb:=2 })] (fun j x=>Z9d.l0 j x.1 x.2.1 x.2.2.1 x.2.2.2.1 x.2.2.2.2.1 x.2.2.2.2.2) k
def Z9d.l0.ok (k:Nat):=(lA (Z9d.cok k):Zj Yb _ (.loop (cO (cO (cR (cL (cR (cB Ys))))))) (Z9d.l0.s k))
theorem Z9d.ok (k:Nat):Ze Yb 199 (Z9d.con k):=fP (.two .auto (.two (.two .auto (.one (.sum (Z9d.l0.s k)))) .auto)) (Z9d.cok k) Yz (sC (Z9d.l0.ok k) sN)
def Zlr (k:Nat) (a1:List Int) (a2:Int) (a3:List G52) (a4:Int):Option (Bool×Int×Int):=Ya (Z9d k a1 a2 a3 a4) fun v5=>some (decide (0≤v5.1),v5.2.1,v5.2.2)
def Zlr.con (k:Nat):Con:=Sig.con { ps:=[.val false (.sl (.int .i64)) (ros (.sl (.int .i64))),.fn 202 [(3,(.int .i64),(Z9g (.int .i64))),(4000000,(.sl T52),[.ro]),(2,(.int .i64),(Z9g (.int .i64)))]],rs:=[.val false [.v .bool]],ntmps:=9 } (fun x=>Zlr k x.1 x.2.1 x.2.2.1 x.2.2.2)
theorem Zlr.ok (k:Nat):Ze Yb 201 (Zlr.con k):=fA (cX (cC (Z9d.ok k) cN)) Tryz.func201
def Zhq (k:Nat) (a1:Int) (a2:List G52) (a3:List Int) (a4:List Int):Option (Bool×List Int):=Ya (at? a2 a1) fun v5=>bif Zrg v5.2.1 a3 then some (true,a3) else Ya (Zlr k a4 a1 a2 v5.2.1) fun v6=>some (!v6.1,a3)
def Zhq.con (k:Nat):Con:=Sig.con { ps:=[.val false (.int .i64) (ros (.int .i64)),.rptr (.sl T52),.ref 222 (.sl (.int .i64)) [.own 1000222],.rptr (.sl (.int .i64))],rs:=[.val false [.v .bool]],ntmps:=21 } (fun x=>Zhq k x.1 x.2.1 x.2.2.1 x.2.2.2)
theorem Zhq.ok (k:Nat):Ze Yb 200 (Zhq.con k):=fA (cX (cC (Zlr.ok k) cN)) Tryz.func200
def Zxd.l0 (k:Nat):Nat→List Int→List Int→Int→Int→List G52→List Int→Option ((List G52×List Int) ⊕ (Int×List G52×List Int))
 | 0,_,_,_,_,_,_=>none
 | j+1,a1,a2,a3,a4,a5,a6=>bif decide (a4<a3) then Ya (at? a1 a4) fun v7=>Ya (Zhq k v7 a5 a6 a2) fun v8=>bif v8.1 then some (.inr (a4,a5,v8.2)) else Zxd.l0 k j a1 a2 a3 (Yc .i64 (a4+1)) a5 v8.2 else some (.inl (a5,a6))
def Zxd (k:Nat) (a1:List Int) (a2:List G52) (a3:List Int) (a4:List Int):Option (Int×List G52×List Int):=Ya (Zxd.l0 k k a1 a4 ((a1.length):Int) 0 a2 a3) fun
  | .inl y5=>some ((-1),y5.1,y5.2)
  | .inr y6=>some (y6.1,y6.2.1,y6.2.2)
def Zxd.con (k:Nat):Con:=Sig.con { ps:=[.val false (.sl (.int .i64)) (ros (.sl (.int .i64))),.fn 200 [(31,(.sl T52),(Z9g (.sl T52))),(222,(.sl (.int .i64)),[.own 1000222]),(4000000,(.sl (.int .i64)),[.ro])]],rs:=[.val false [.v (.int .i64)]],ntmps:=19 } (fun x=>Zxd k x.1 x.2.1 x.2.2.1 x.2.2.2)
def Zxd.cok (k:Nat):=cX (cC (Zhq.ok k) cN)
def Zxd.l0.s (k:Nat):Summ:=lp 19 { tmps:=[(0,.one (.bor (.int .i64))),(1,.fn 200 [.ptr 0 0,.ptr 1 0,.rp (.sl (.int .i64))]),(7,.one (.v (.int .i64))),(8,.one (.v (.int .i64)))],slots:=[(0,.box 31 [.v (.sl T52)]),(1,.box 222 [.own 3]),(3,.arr false 1000222 (.int .i64))],nb:=4 } [(.exit 0,{ tmps:=[],slots:=[(0,.box 31 [.v (.sl T52)]),(1,.box 222 [.own 4]),(4,.arr false 1000222 (.int .i64))],nb:=5 }),(.ret,{ tmps:=[(4,.one (.v (.int .i64)))],slots:=[(0,.box 31 [.v (.sl T52)]),(1,.box 222 [.own 4]),(4,.arr false 1000222 (.int .i64))],nb:=5 })] (fun j x=>Zxd.l0 k j x.1 x.2.1 x.2.2.1 x.2.2.2.1 x.2.2.2.2.1 x.2.2.2.2.2) k
def Zxd.l0.ok (k:Nat):=(lA (Zxd.cok k):Zj Yb _ (.loop (cO (cO (cR (cL (cR (cB Ys))))))) (Zxd.l0.s k))
theorem Zxd.ok (k:Nat):Ze Yb 199 (Zxd.con k):=fP (.two .auto (.two (.two .auto (.one (.sum (Zxd.l0.s k)))) .auto)) (Zxd.cok k) Yz (sC (Zxd.l0.ok k) sN)
def slices_Delete_int (l:List Int) (i j:Int):Option (List Int):=if 0≤i∧i≤j∧j≤(l.length:Int) then some (l.take i.toNat++l.drop j.toNat) else none
def slices_Delete_int.con (k:Nat):Con:={ ms:=[.mv,.val [.ro],.val [.ro]],f:=fun xs=>match xs with
 | [.mv e (.int .i64) l,.val false [.leaf (.int .i64 i)],.val false [.leaf (.int .i64 j)]]=>bif Nat.beq e 3 then .opt (List Int) (slices_Delete_int l i j) fun r=>⟨[.val false [.own e (.int .i64) r]],[]⟩ else .fail
 | _=>.fail }
theorem slices_Delete_int.drew (w:World) (q:Nat):(w.drewN q).heap=w.heap∧(w.drewN q).os=w.os∧(w.drewN q).tape=w.tape∧(w.drewN q).output=w.output:=⟨rfl,rfl,rfl,rfl⟩
theorem slices_Delete_int.ok (k:Nat):Ze Yb 204 (slices_Delete_int.con k):=by
 refine ⟨(Zi4 Tryz.func204 (by kernel_rfl) (show Yt.body=some (cB Yt) by kernel_rfl)),?_⟩
 intro xs rr hrr w vs F L M hF hnd hgl hargs
 unfold slices_Delete_int.con at hrr
 dsimp only at hrr
 split at hrr
 ·rename_i e l i j
  cases he:Nat.beq e 3 with
  | false=>rw [he] at hrr;cases hrr
  | true=>
  rw [he] at hrr;have hm:Zy e=false:=by rw [Nat.eq_of_beq_eq_true he];rfl
  replace hrr:(slices_Delete_int l i j).map (fun r=>(⟨[.val false [.own e (.int .i64) r]],[]⟩:RR))=some rr:=hrr;unfold slices_Delete_int at hrr;split at hrr
  ·rename_i hij
   obtain ⟨h0,h1,h2⟩:=hij;cases hrr
   match vs,hargs with
   | [v1,v2,v3],⟨_,_,_,_,hL,hM,⟨rfl,rfl,hrow⟩,_,_,_,_,hL2,hM2,⟨rfl,hv2,hn2⟩,_,_,_,_,hL3,hM3,⟨rfl,hv3,hn3⟩,hn4,hn5⟩=>
   have hv2:v2 = .int .i64 i:=hv2;have hv3:v3 = .int .i64 j:=hv3;subst hv2;subst hv3;subst hn2;subst hn3;subst hn4;subst hn5;subst hL3;subst hM3;subst hL2;subst hM2;subst hL;subst hM;obtain ⟨a,rfl⟩:∃a:Nat,i=(a:Int):=⟨i.toNat,by omega⟩;obtain ⟨b,rfl⟩:∃b:Nat,j=(b:Int):=⟨j.toNat,by omega⟩;rw [Yk,Yk];rcases hrow.slice hm with ⟨rfl,rfl⟩ | ⟨g,cap,cs,fr,rfl,hh,hun,hfz,hlc,hcs,hcells⟩
   ·have hb0:b=0:=by
     have:(([]:List Int).length:Int)=0:=rfl;have h2:(b:Int)≤(([]:List Int).length:Int):=h2;omega
    have ha0:a=0:=by omega
    subst hb0;subst ha0;refine (Tryz.slices_Delete_int_empty none 0 w).mono ?_;rintro e' w' ⟨rfl,rfl⟩;refine ⟨_,rfl,⟨rfl,rfl,rfl,Yg _,fun _ _ _=>rfl⟩,[],[.row (.slice none 0 0)],?_,Yn,rfl,rfl,Zac.ok (.inl ⟨rfl,rfl⟩) hm,rfl⟩;intro c hc q hq;rw [Yf.1 hc] at hq;cases hq
   ·have hsz:(Ty.int IntKind.i64).sz=1:=rfl
    rw [hsz,Yh] at hcs;have hab:a≤b:=by omega
    have hbl:b≤l.length:=by omega
    obtain ⟨rfl,hcapm⟩:=hfz rfl
    have hcell:∀q,q<l.length→w.cell? ⟨g,0+q,none⟩=some (.int .i64 (l.getD q 0)):=by
     intro q hq;have h3:=hcells q l[q] (Ym hq);have h3:(cs.toList.drop (q*1)).take 1=[.int .i64 l[q]]:=h3;rw [Yh] at h3
     have h4:cs.toList[q]? = some (.int .i64 l[q]):=by
      have:=congrArg (fun z=>z[0]?) h3;simpa using this
     rw [cell_of_row w g (0+q) cs e (0,0) hh,Nat.zero_add,← Array.getElem?_toList,h4,List.getD_eq_getElem?_getD,Ym hq];rfl
    refine (Tryz.slices_Delete_int_cells g 0 l.length cap a b l w (Yg _) hlc (by unfold maxLen at hcapm;omega) hab hbl hcell (fun q hq=>by
     simp only [World.frozen?,hh];simp)).mono ?_
    rintro e' w' ⟨rfl,q,rfl⟩;rw [List.take_of_length_le (Yg l.length)];obtain ⟨d1,d2,d3,d4⟩:=slices_Delete_int.drew w q;generalize hvs:((l.take a++l.drop b++Yo (b-a) (0:Int)).map (Value.int .i64))=us;have hul:us.length=l.length:=by rw [← hvs];simp;omega
    obtain ⟨r1,r2,r3,r4⟩:=Z07 g us 0 (w.drewN q);have hh':(w.drewN q).heap[g]? = some (.cells cs e (0,0)):=by rw [d1];exact hh
    have hblk:=Znt g us 0 cs (w.drewN q) hh' (by omega);have hgl:g<w.heap.size:=(Array.getElem?_eq_some_iff.1 hh).1;have hres:(l.take a++l.drop b).length=l.length-(b-a):=by simp;omega
    refine ⟨_,rfl,⟨r1.trans d2,r2.trans d3,r3.trans d4,by rw [r4,d1];exact Yg _,fun x hx hn=>?_⟩,[],[.row (.slice (some ⟨g,0,none⟩) (l.length-(b-a)) cap)],?_,?_,rfl,rfl,Zac.ok (.inr ⟨g,cap,_,(0,0),by rw [hres],hblk,.inl rfl,fun _=>⟨rfl,hcapm⟩,by rw [hres];omega,?_,?_⟩) hm,rfl⟩
    ·rw [Zb2 g us 0 (w.drewN q) x (fun ex=>hn (by subst ex;exact Yf.2 rfl)),d1]
    ·intro c hc x hx
     rw [Yf.1 hc] at hx;cases hx;exact ⟨.inl (Yf.2 rfl),by rw [r4,d1];exact hgl⟩
    ·exact List.nodup_cons.2 ⟨(fun h=>nomatch h),Yn⟩
    ·rw [List.size_toArray,Zft _ _ _ (by simp;omega),Array.length_toList,hcs,hsz,Yh]
    ·intro x y hx
     show ((overL cs.toList 0 us).toArray.toList.drop (x*1)).take 1=[.int .i64 y];have hxl:=(List.getElem?_eq_some_iff.1 hx).1
     have hus:us[x]? = some (.int .i64 y):=by
      rw [← hvs,List.getElem?_map,List.getElem?_append_left hxl,hx];rfl
     rw [Yh,List.toList_toArray];apply List.ext_getElem?;intro m;rw [List.getElem?_take,List.getElem?_drop,Z5m _ _ _ (by simp;omega)];cases m with
     | zero=>
      rw [Xc (by omega),Xd (by omega),Xc (by omega),Nat.add_zero,Nat.sub_zero,hus];rfl
     | succ m=>rw [Xd (by omega)];rfl
  ·cases hrr
 ·cases hrr
def Znb.l0:Nat→Int→Int→List Int→Option ((List Int))
 | 0,_,_,_=>none
 | j+1,a1,a2,a3=>bif decide (a2<a1) then Ya (at? a3 a2) fun v4=>Ya (at? a3 a2) fun v5=>Znb.l0 j a1 (Yc .i64 (a2+1)) (Ye a3 (Yd a2) a2) else some a3
def Znb.l1 (k:Nat):Nat→List G52→List Zed→List Int→List Int→Option ((List G52×List Zed×List Int×List Int))
 | 0,_,_,_,_=>none
 | j+1,a1,a2,a3,a4=>bif decide (0<((a3.length):Int)) then Ya (Zxd k a3 a1 a4 a3) fun v5=>bif decide (v5.1<0) then Ya (at? a3 0) fun v6=>Ya (at? a3 0) fun v7=>let e8:=at? v5.2.1 v7;Ya (e8) fun v9=>Ya (Zt 32 a2 [(1,(v7,(v9.2.1,((v5.2.2.length):Int))))]) fun v10=>Ya (e8) fun v11=>Znb.l1 k j v5.2.1 v10 a3 (Zvh v11.2.1 v5.2.2) else let e12:=at? a3 v5.1;Ya (e12) fun v13=>Ya (e12) fun v14=>Ya (at? v5.2.1 v14) fun v15=>Ya (Zt 32 a2 [(2,(v14,(v15.2.1,0)))]) fun v16=>Ya (slices_Delete_int a3 v5.1 (Yc .i64 (v5.1+1))) fun v17=>Znb.l1 k j v5.2.1 v16 v17 v5.2.2 else some (a1,a2,a3,a4)
def Znb (k:Nat) (a1:List G52):Option (List Zed):=Ya (Zqj k a1) fun v2=>Ya (Z3g 8 ((v2.length):Int) ((v2.length):Int) 0) fun v3=>Ya (Znb.l0 k ((v3.length):Int) 0 v3) fun y4=>Ya (Znb.l1 k k v2 [] y4 []) fun y5=>some y5.2.1
def Znb.con (k:Nat):Con:=Sig.con { ps:=[.val false (.sl T52) (ros (.sl T52))],rs:=[.val false [.own 139 Z5b]],ntmps:=76 } (fun x=>Znb k x)
def Znb.cok (k:Nat):=cX (cC (Zqj.ok k) (cC (Zxd.ok k) (cC (slices_Delete_int.ok k) cN)))
def Znb.l0.s (k:Nat):Summ:=lp 76 { tmps:=[(4,.one (.ptr 2 0)),(17,.one (.v (.int .i64))),(18,.one (.v (.int .i64)))],slots:=[(2,.box 221 [.own 3]),(3,.arr false 3 (.int .i64))],nb:=4 } [(.exit 0,{ tmps:=[],slots:=[(2,.box 221 [.own 4]),(4,.arr false 3 (.int .i64))],nb:=5 })] (fun j x=>Znb.l0 j x.1 x.2.1 x.2.2) k
def Znb.l0.ok (k:Nat):=(lA (Znb.cok k):Zj Yb _ (.loop (cO (cO (cR (cL (cR (cR (cR (cB Yp))))))))) (Znb.l0.s k))
def Znb.l1.s (k:Nat):Summ:=lp 76 { tmps:=[(3,.one (.ptr 0 0)),(4,.one (.ptr 2 0)),(6,.one (.ptr 6 0)),(7,.one (.own 7))],slots:=[(0,.box 31 [.v (.sl T52)]),(2,.box 221 [.own 8]),(6,.box 222 [.own 9]),(7,.arr false 139 Z5b),(8,.arr false 3 (.int .i64)),(9,.arr false 1000222 (.int .i64))],nb:=10 } [(.exit 2,{ tmps:=[(7,.one (.own 10))],slots:=[(0,.box 31 [.v (.sl T52)]),(2,.box 221 [.own 11]),(6,.box 222 [.own 12]),(10,.arr false 139 Z5b),(11,.arr false 3 (.int .i64)),(12,.arr false 1000222 (.int .i64))],nb:=13 })] (fun j x=>Znb.l1 k j x.1 x.2.1 x.2.2.1 x.2.2.2) k
def Znb.l1.ok (k:Nat):=(lA (Znb.cok k):Zj Yb _ (.loop (cO (cO (cL (cR (cR (cR (cR (cR (cR (cB Yp))))))))))) (Znb.l1.s k))
theorem Znb.ok (k:Nat):Ze Yb 110 (Znb.con k):=fP (.two .auto (.two .auto (.two .auto (.two (.two .auto (.one (.sum (Znb.l0.s k)))) (.two .auto (.two .auto (.two (.one (.sum (Znb.l1.s k))) .auto))))))) (Znb.cok k) Tryz.func110 (sC (Znb.l0.ok k) (sC (Znb.l1.ok k) sN))
def Zme.l0:Nat→Int→List Zed→Int→Int→Option (Int)
 | 0,_,_,_,_=>none
 | j+1,a1,a2,a3,a4=>bif decide (a4<a3) then Ya (at? a2 a4) fun v5=>let e6:=Yc .i64 (a4+1);bif v5.1==1 then Zme.l0 j (Yc .i64 (a1+1)) a2 a3 e6 else Zme.l0 j a1 a2 a3 e6 else some a1
def Zme (k:Nat) (a1:List Zed):Option (Int):=Ya (Zme.l0 k 0 a1 ((a1.length):Int) 0) fun y2=>some y2
def Zme.con (k:Nat):Con:=Sig.con { ps:=[.val false (.sl Z5b) (ros (.sl Z5b))],rs:=[.val false [.v (.int .i64)]],ntmps:=19 } (fun x=>Zme k x)
def Zme.cok (k:Nat):=cX cN
def Zme.l0.s (k:Nat):Summ:=lp 19 { tmps:=[(3,.one (.v (.int .i64))),(6,.one (.bor Z5b)),(7,.one (.v (.int .i64))),(8,.one (.v (.int .i64)))],slots:=[],nb:=0 } [(.exit 0,{ tmps:=[(3,.one (.v (.int .i64)))],slots:=[],nb:=0 })] (fun j x=>Zme.l0 j x.1 x.2.1 x.2.2.1 x.2.2.2) k
def Zme.l0.ok (k:Nat):=(lA (Zme.cok k):Zj Yb _ (.loop (cO (cO (cR (cL (cR (cR (cB Tryz.f111)))))))) (Zme.l0.s k))
theorem Zme.ok (k:Nat):Ze Yb 111 (Zme.con k):=fP (.two .auto (.two .auto (.two (.two .auto (.one (.sum (Zme.l0.s k)))) .auto))) (Zme.cok k) Tryz.func111 (sC (Zme.l0.ok k) sN)
def Z5l (a1:List Zed):Option (Int):=some ((a1.length):Int)
def Z5l.con (k:Nat):Con:=Sig.con { ps:=[.val false (.sl Z5b) (ros (.sl Z5b))],rs:=[.val false [.v (.int .i64)]],ntmps:=5 } (fun x=>Z5l x)
theorem Z5l.ok (k:Nat):Ze Yb 112 (Z5l.con k):=fA (cX cN) Tryz.func112
def Zik (k:Nat) (a1:G28):Option (Bool):=Ya (Zsg k a1) fun v2=>bif !v2.2.2.2.2.2.2.2.2 then some false else Ya (Zzd k a1) fun v3=>Ya (Zbq k v3) fun v4=>bif !v4 then some false else bif (v2.1==1)||(v2.1==2) then some true else Ya (Zad k a1 (v2.1,(v2.2.1,(v2.2.2.1,(v2.2.2.2.1,(v2.2.2.2.2.1,(v2.2.2.2.2.2.1,(v2.2.2.2.2.2.2.1,v2.2.2.2.2.2.2.2.1)))))))) fun v5=>Ya (Zgd k v5 a1.1) fun v6=>bif v6 != 0 then some false else Ya (Znb k v5) fun v7=>Ya (Zme k v7) fun v8=>bif decide (v8≤v2.2.2.2.1) then Ya (Z5l v7) fun v9=>some (decide (v2.2.2.2.2.1≤v9)) else some false
def Zik.con (k:Nat):Con:=Sig.con { ps:=[.val true T28 (ros T28)],rs:=[.val false [.v .bool]],ntmps:=50 } (fun x=>Zik k x)
theorem Zik.ok (k:Nat):Ze Yb 56 (Zik.con k):=fA (cXr true false (cC (Zbq.ok k) (cC (Zzd.ok k) (cC (Zsg.ok k) (cC (Zad.ok k) (cC (Zgd.ok k) (cC (Znb.ok k) (cC (Zme.ok k) (cC (Z5l.ok k) cN))))))))) Tryz.func56
def Z9k (a1:G54):Option (Bool):=let e2:=(a1.2.2.2.2.1==0)&&((a1.2.2.2.2.2.1==0)&&((a1.2.2.2.2.2.2.1==0)&&(a1.2.2.2.2.2.2.2==[])));bif a1.1==1 then Ya (Z3 a1.2.1 1 20) fun v3=>Ya (Z3 a1.2.2.1 0 4) fun v4=>Ya (Z3 a1.1 1 11) fun v5=>some ((((v5&&v3)&&v4)&&(((a1.2.2.2.1.length):Int)==32))&&e2) else let e6:=a1.2.1==0;let e7:=a1.2.2.1==0;let e8:=a1.2.2.2.1==[];bif a1.1==2 then Ya (Zqc a1.2.2.2.2 8) fun v9=>Ya (Z3 a1.1 1 11) fun v10=>some ((((v10&&e6)&&e7)&&e8)&&v9) else bif a1.1==9 then Ya (Z3 a1.2.1 1 24) fun v11=>Ya (Z3 a1.1 1 11) fun v12=>some ((((v12&&v11)&&e7)&&e8)&&e2) else bif a1.1==7 then Ya (Zyi a1.2.1) fun v13=>Ya (Z3 a1.1 1 11) fun v14=>some ((((v14&&v13)&&e7)&&e8)&&e2) else Ya (Z3 a1.1 1 11) fun v15=>some ((((v15&&e6)&&e7)&&e8)&&e2)
def Z9k.con (k:Nat):Con:=Sig.con { ps:=[.val true T54 (ros T54)],rs:=[.val false [.v .bool]],ntmps:=64 } (fun x=>Z9k x)
theorem Z9k.ok (k:Nat):Ze Yb 60 (Z9k.con k):=fA (cX (cC (Z3.ok k) (cC (Zqc.ok k) (cC (Zyi.ok k) cN)))) Tryz.func60
def Z9p (a1:Int):Option (Bool):=Ya (Z3 a1 0 50) fun v2=>some (!v2)
def Z9p.con (k:Nat):Con:=Sig.con { ps:=[.val false (.int .i64) (ros (.int .i64))],rs:=[.val false [.v .bool]],ntmps:=6 } (fun x=>Z9p x)
theorem Z9p.ok (k:Nat):Ze Yb 170 (Z9p.con k):=fA (cX (cC (Z3.ok k) cN)) Tryz.func170
def Z8d.l0:Nat→List Int→Int→Int→Option (Unit ⊕ Int)
 | 0,_,_,_=>none
 | j+1,a1,a2,a3=>bif decide (a3<a2) then Ya (at? a1 a3) fun v4=>Ya (Z9p v4) fun v5=>bif v5 then some (.inr a3) else Z8d.l0 j a1 a2 (Yc .i64 (a3+1)) else some (.inl ())
def Z8d (k:Nat) (a1:List Int):Option (Int):=Ya (Z8d.l0 k a1 ((a1.length):Int) 0) fun
  | .inl y2=>some (-1)
  | .inr y3=>some y3
def Z8d.con (k:Nat):Con:=Sig.con { ps:=[.val false (.sl (.int .i64)) (ros (.sl (.int .i64))),.fn 170 []],rs:=[.val false [.v (.int .i64)]],ntmps:=19 } (fun x=>Z8d k x)
def Z8d.cok (k:Nat):=cX (cC (Z9p.ok k) cN)
def Z8d.l0.s (k:Nat):Summ:=lp 19 { tmps:=[(0,.one (.bor (.int .i64))),(1,.fn 170 []),(7,.one (.v (.int .i64))),(8,.one (.v (.int .i64)))],slots:=[],nb:=0 } [(.exit 0,{ tmps:=[],slots:=[],nb:=0 }),(.ret,{ tmps:=[(4,.one (.v (.int .i64)))],slots:=[],nb:=0 })] (fun j x=>Z8d.l0 j x.1 x.2.1 x.2.2) k
def Z8d.l0.ok (k:Nat):=(lA (Z8d.cok k):Zj Yb _ (.loop (cO (cO (cR (cL (cR (cB Yu))))))) (Z8d.l0.s k))
theorem Z8d.ok (k:Nat):Ze Yb 246 (Z8d.con k):=fP (.two .auto (.two (.two .auto (.one (.sum (Z8d.l0.s k)))) .auto)) (Z8d.cok k) Y0 (sC (Z8d.l0.ok k) sN)
def Zkr (k:Nat) (a1:List Int):Option (Bool):=Ya (Z8d k a1) fun v2=>some (decide (0≤v2))
def Zkr.con (k:Nat):Con:=Sig.con { ps:=[.val false (.sl (.int .i64)) (ros (.sl (.int .i64))),.fn 170 []],rs:=[.val false [.v .bool]],ntmps:=9 } (fun x=>Zkr k x)
theorem Zkr.ok (k:Nat):Ze Yb 168 (Zkr.con k):=fA (cX (cC (Z8d.ok k) cN)) Yx
def Z8p (a1:Int):Option (Bool):=Ya (Z3 a1 0 200) fun v2=>some (!v2)
def Z8p.con (k:Nat):Con:=Sig.con { ps:=[.val false (.int .i64) (ros (.int .i64))],rs:=[.val false [.v .bool]],ntmps:=6 } (fun x=>Z8p x)
theorem Z8p.ok (k:Nat):Ze Yb 169 (Z8p.con k):=fA (cX (cC (Z3.ok k) cN)) Tryz.func169
def Z7d.l0:Nat→List Int→Int→Int→Option (Unit ⊕ Int)
 | 0,_,_,_=>none
 | j+1,a1,a2,a3=>bif decide (a3<a2) then Ya (at? a1 a3) fun v4=>Ya (Z8p v4) fun v5=>bif v5 then some (.inr a3) else Z7d.l0 j a1 a2 (Yc .i64 (a3+1)) else some (.inl ())
def Z7d (k:Nat) (a1:List Int):Option (Int):=Ya (Z7d.l0 k a1 ((a1.length):Int) 0) fun
  | .inl y2=>some (-1)
  | .inr y3=>some y3
def Z7d.con (k:Nat):Con:=Sig.con { ps:=[.val false (.sl (.int .i64)) (ros (.sl (.int .i64))),.fn 169 []],rs:=[.val false [.v (.int .i64)]],ntmps:=19 } (fun x=>Z7d k x)
def Z7d.cok (k:Nat):=cX (cC (Z8p.ok k) cN)
def Z7d.l0.s (k:Nat):Summ:=lp 19 { tmps:=[(0,.one (.bor (.int .i64))),(1,.fn 169 []),(7,.one (.v (.int .i64))),(8,.one (.v (.int .i64)))],slots:=[],nb:=0 } [(.exit 0,{ tmps:=[],slots:=[],nb:=0 }),(.ret,{ tmps:=[(4,.one (.v (.int .i64)))],slots:=[],nb:=0 })] (fun j x=>Z7d.l0 j x.1 x.2.1 x.2.2) k
def Z7d.l0.ok (k:Nat):=(lA (Z7d.cok k):Zj Yb _ (.loop (cO (cO (cR (cL (cR (cB Yu))))))) (Z7d.l0.s k))
theorem Z7d.ok (k:Nat):Ze Yb 246 (Z7d.con k):=fP (.two .auto (.two (.two .auto (.one (.sum (Z7d.l0.s k)))) .auto)) (Z7d.cok k) Y0 (sC (Z7d.l0.ok k) sN)
def Zjr (k:Nat) (a1:List Int):Option (Bool):=Ya (Z7d k a1) fun v2=>some (decide (0≤v2))
def Zjr.con (k:Nat):Con:=Sig.con { ps:=[.val false (.sl (.int .i64)) (ros (.sl (.int .i64))),.fn 169 []],rs:=[.val false [.v .bool]],ntmps:=9 } (fun x=>Zjr k x)
theorem Zjr.ok (k:Nat):Ze Yb 168 (Zjr.con k):=fA (cX (cC (Z7d.ok k) cN)) Yx
def Zio (k:Nat) (a1:G86):Option (Bool):=Ya (Z9k a1.1) fun v2=>bif !v2 then some false else Ya (Z3 a1.2.1 (-1) 50) fun v3=>let e4:=((a1.2.2.1.length):Int);let e5:=((a1.2.2.2.length):Int);bif (((!v3)||(decide (40<e4)))||(decide (5<e5)))||((decide (a1.2.1<0))&&(decide (0<(Yc .i64 (e4+e5))))) then some false else Ya (Zjr k a1.2.2.1) fun v6=>bif !v6 then Ya (Zkr k a1.2.2.2) fun v7=>some (!v7) else some false
def Zio.con (k:Nat):Con:=Sig.con { ps:=[.val true T86 (ros T86)],rs:=[.val false [.v .bool]],ntmps:=50 } (fun x=>Zio k x)
theorem Zio.ok (k:Nat):Ze Yb 83 (Zio.con k):=fA (cXr true false (cC (Z9k.ok k) (cC (Z3.ok k) (cC (Zjr.ok k) (cC (Zkr.ok k) cN))))) Tryz.func83
def Zii (a:List Str):Option (List Str):=Ya (Zt 16 [] a) fun y=>some y
def Zii.sig:Sig:={ ps:=[.val false (.sl .str) (ros (.sl .str))],rs:=[.val false [.own 9 .str]],ntmps:=8 }
def Zii.con (k:Nat):Con:=Zii.sig.con (fun x=>Zii x)
theorem Zii.ok (k:Nat):Ze Yb 205 (Zii.con k):=
 Zjz (e:=9) (C:={ ti:=TAB,con:=Z3l [] }) (s:=Zii.sig) (G:=fun x=>Zii x) (Zdu Z6t trivial) Tryz.func205 (by kernel_rfl) rfl (by kernel_rfl) (by kernel_rfl) (by kernel_rfl) rfl rfl rfl rfl rfl rfl (by kernel_rfl) (by kernel_rfl)
  (fun x=>⟨_,_,.inl rfl⟩) (fun x y h=>Eq.trans (b:=Zii x) (by kernel_rfl) h) (fun x y h hl=>by
   have e:x=([]:List Str):=hl .str x (.inl (by kernel_rfl));subst e;exact Eq.trans (b:=Zii []) (by kernel_rfl) h)
def Ztk (a:List Zq):Option (List Zq):=Ya (Zt 24 [] a) fun y=>some y
def Ztk.sig:Sig:={ ps:=[.val false (.sl Zo) (ros (.sl Zo))],rs:=[.val false [.own 195 Zo]],ntmps:=8 }
def Ztk.con (k:Nat):Con:=Ztk.sig.con (fun x=>Ztk x)
theorem Ztk.ok (k:Nat):Ze Yb 224 (Ztk.con k):=
 Zjz (e:=195) (C:={ ti:=TAB,con:=Z3l [] }) (s:=Ztk.sig) (G:=fun x=>Ztk x) (Zdu Z6t trivial) Tryz.func224 (by kernel_rfl) rfl (by kernel_rfl) (by kernel_rfl) (by kernel_rfl) rfl rfl rfl rfl rfl rfl (by kernel_rfl) (by kernel_rfl)
  (fun x=>⟨_,_,.inl rfl⟩) (fun x y h=>Eq.trans (b:=Ztk x) (by kernel_rfl) h) (fun x y h hl=>by
   have e:x=([]:List Zq):=hl Zo x (.inl (by kernel_rfl));subst e;exact Eq.trans (b:=Ztk []) (by kernel_rfl) h)
def Z4p (a1:G26):Option (List Str×List Zq):=Ya (Zii a1.1) fun v2=>Ya (Ztk a1.2) fun v3=>some (v2,v3)
def Z4p.con (k:Nat):Con:=Sig.con { ps:=[.val true T26 (ros T26)],rs:=[.val true [.own 9 .str,.own 195 Zo]],ntmps:=10 } (fun x=>Z4p x)
theorem Z4p.ok (k:Nat):Ze Yb 141 (Z4p.con k):=fA (cXr true false (cC (Zii.ok k) (cC (Ztk.ok k) cN))) Tryz.func141
def Zyf.l0:Nat→Int→Int→List Zq→List Str→Option ((List Str×List Zq))
 | 0,_,_,_,_=>none
 | j+1,a1,a2,a3,a4=>bif decide (a2<a1) then Ya (at? a3 a2) fun v5=>Ya (at? a3 a2) fun v6=>let e7:=at? a4 v6.1;Ya (e7) fun v8=>Ya (e7) fun v9=>Zyf.l0 j a1 (Yc .i64 (a2+1)) a3 (Ye a4 (Yd v6.1) v6.2) else some (a4,a3)
def Zyf (k:Nat) (a1:G26):Option (List Str×List Zq):=Ya (Zyf.l0 k ((a1.2.length):Int) 0 a1.2 a1.1) fun y2=>some (y2.1,[])
def Zyf.con (k:Nat):Con:=Sig.con { ps:=[.ref 26 T26 [.own 9,.own 195]],rs:=[],ntmps:=26 } (fun x=>Zyf k x)
def Zyf.cok (k:Nat):=cX cN
def Zyf.l0.s (k:Nat):Summ:=lp 26 { tmps:=[(0,.one (.ptr 0 0)),(7,.one (.own 3)),(8,.one (.v (.int .i64))),(9,.one (.v (.int .i64)))],slots:=[(0,.box 26 [.own 4,.own 3]),(3,.arr false 195 Zo),(4,.arr false 9 .str)],nb:=5 } [(.exit 0,{ tmps:=[],slots:=[(0,.box 26 [.own 5,.own 6]),(5,.arr false 9 .str),(6,.arr false 195 Zo)],nb:=7 })] (fun j x=>Zyf.l0 j x.1 x.2.1 x.2.2.1 x.2.2.2) k
def Zyf.l0.ok (k:Nat):=(lA (Zyf.cok k):Zj Yb _ (.loop (cO (cO (cR (cL (cB Tryz.f142)))))) (Zyf.l0.s k))
theorem Zyf.ok (k:Nat):Ze Yb 142 (Zyf.con k):=fP (.two (.two .auto (.one (.sum (Zyf.l0.s k)))) .auto) (Zyf.cok k) Tryz.func142 (sC (Zyf.l0.ok k) sN)
def Zyp (k:Nat) (a1:G26) (a2:Int) (a3:Str):Option (List Str×List Zq):=Ya (Z8k k a1 a2) fun v4=>bif decide (0≤v4) then let e5:=at? a1.2 v4;Ya (e5) fun v6=>Ya (e5) fun v7=>some (a1.1,Ye a1.2 (Yd v4) (v7.1,a3)) else Ya (Zt 24 a1.2 [(a2,a3)]) fun v8=>some (a1.1,v8)
def Zyp.con (k:Nat):Con:=Sig.con { ps:=[.ref 26 T26 [.own 9,.own 195],.val false (.int .i64) (ros (.int .i64)),.val false .str (ros .str)],rs:=[],ntmps:=34 } (fun x=>Zyp k x.1 x.2.1 x.2.2)
theorem Zyp.ok (k:Nat):Ze Yb 143 (Zyp.con k):=fA (cX (cC (Z8k.ok k) cN)) Tryz.func143
def Zud.l0 (k:Nat):Nat→List Zmc→Int→Int→List Str→List Zq→Option ((List Str×List Zq))
 | 0,_,_,_,_,_=>none
 | j+1,a1,a2,a3,a4,a5=>bif decide (a3<a2) then Ya (at? a1 a3) fun v6=>let e7:=Yc .i64 (a3+1);bif v6.1 then Ya (Zyf k (a4,a5)) fun v8=>Zud.l0 k j a1 a2 e7 v8.1 v8.2 else Ya (Zyp k (a4,a5) v6.2.1 v6.2.2) fun v9=>Zud.l0 k j a1 a2 e7 v9.1 v9.2 else some (a4,a5)
def Zud (k:Nat) (a1:G26) (a2:List Zmc):Option (List Str×List Zq):=Ya (Z4p a1) fun v3=>Ya (Zud.l0 k k a2 ((a2.length):Int) 0 v3.1 v3.2) fun y4=>some (y4.1,y4.2)
def Zud.con (k:Nat):Con:=Sig.con { ps:=[.val true T26 (ros T26),.val false (.sl Z6b) (ros (.sl Z6b))],rs:=[.val true [.own 9 .str,.own 195 Zo]],ntmps:=26 } (fun x=>Zud k x.1 x.2)
def Zud.cok (k:Nat):=cXr true false (cC (Z4p.ok k) (cC (Zyf.ok k) (cC (Zyp.ok k) cN)))
def Zud.l0.s (k:Nat):Summ:=lp 26 { tmps:=[(5,.one (.ptr 3 0)),(10,.one (.bor Z6b)),(11,.one (.v (.int .i64))),(12,.one (.v (.int .i64)))],slots:=[(3,.box 26 [.own 4,.own 5]),(4,.arr false 9 .str),(5,.arr false 195 Zo)],nb:=6 } [(.exit 0,{ tmps:=[],slots:=[(3,.box 26 [.own 6,.own 7]),(6,.arr false 9 .str),(7,.arr false 195 Zo)],nb:=8 })] (fun j x=>Zud.l0 k j x.1 x.2.1 x.2.2.1 x.2.2.2.1 x.2.2.2.2) k
def Zud.l0.ok (k:Nat):=(lA (Zud.cok k):Zj Yb _ (.loop (cO (cO (cR (cL (cR (cR (cB Tryz.f63)))))))) (Zud.l0.s k))
theorem Zud.ok (k:Nat):Ze Yb 63 (Zud.con k):=fP (.two .auto (.two .auto (.two (.two .auto (.one (.sum (Zud.l0.s k)))) .auto))) (Zud.cok k) Tryz.func63 (sC (Zud.l0.ok k) sN)
end Go.Proofs.Qz
