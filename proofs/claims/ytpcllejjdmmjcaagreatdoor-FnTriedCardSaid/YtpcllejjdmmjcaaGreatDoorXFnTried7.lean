/- What the law FnTried needs, part 8 of 14: the Lean functions of the Go functions that it reaches, with the proofs that the calls come to what they say, and plain facts about them. Conditions: those that each theorem states. Written by a session and by its programs (after the kit's printer). -/
import Derived.Test.YtpcllejjdmmjcaaGreatDoorXFnTried6
open Option renaming bind → Ya
open Go.Proofs.Tryz renaming prog → Yb, f262 → Yk, f296 → Yl, func262 → Ym, f110 → Yq, f124 → Yr, f138 → Ys, f199 → Yt, f204 → Yu, f270 → Yv, f294 → Yw, func199 → Yx
open Go.IntKind renaming wrap → Yc
open List renaming getD → Yd, set → Yf, mem_singleton → Yg, replicate → Yj, getElem?_eq_getElem → Yo, nodup_nil → Yp
open Int renaming toNat → Ye, toNat_natCast → Yn
open Nat renaming le_refl → Yh, mul_one → Yi
namespace Go.Proofs.Qz
open Go Go.RowKit
set_option linter.unusedVariables false
set_option linter.defProp false
def Ztm (k:Nat) (a1:Int) (a2:Str):Option (Str):=Ya (Z8b k a1) fun v3=>Ya (Zgi k a2) fun v4=>Ya (Zae v3 v4) fun v5=>Ya (Zhi k v5) fun v6=>some v6
def Ztm.con (k:Nat):Con:=Sig.con { ps:=[.val false (.int .i64) (ros (.int .i64)),.val false .str (ros .str)],rs:=[.val false [.v .str]],ntmps:=11 } (fun x=>Ztm k x.1 x.2)
theorem Ztm.ok (k:Nat):Zd Yb 185 (Ztm.con k):=fA (cX (cC (Zgi.ok k) (cC (Zhi.ok k) (cC (Z8b.ok k) cN)))) Tryz.func185
def Zil (k:Nat) (a1:G26) (a2:Str):Option (List Zkg):=Ya (Zxc k a1) fun v3=>let e4:=Yc .i64 (v3.1+1);bif decide (1000000<e4) then some ([]) else let e5:=(true,(0,[]));bif v3.2.2.2==0 then Ya (Ztm k e4 a2) fun v6=>some ([(false,(1,v6)),e5]) else Ya (Ztm k e4 a2) fun v7=>some ([(false,(0,v7)),e5])
def Zil.con (k:Nat):Con:=Sig.con { ps:=[.val true T26 (ros T26),.val false .str (ros .str)],rs:=[.val false [.own 151 Zke]],ntmps:=28 } (fun x=>Zil k x.1 x.2)
theorem Zil.ok (k:Nat):Zd Yb 96 (Zil.con k):=fA (cXr true false (cC (Zxc.ok k) (cC (Ztm.ok k) cN))) Tryz.func96
def Znc.l0:Nat→Int→List Int→Int→Int→Option (Int)
 | 0,_,_,_,_=>none
 | j+1,a1,a2,a3,a4=>bif decide (a4<a3) then Ya (at? a2 a4) fun v5=>Ya (Zkb v5) fun v6=>Znc.l0 j (intBits .or .i64 a1 (shl .i64 1 v5)) a2 a3 (Yc .i64 (a4+1)) else some a1
def Znc (k:Nat) (a1:List Int):Option (Int):=Ya (Znc.l0 k 0 a1 ((a1.length):Int) 0) fun y2=>some y2
def Znc.con (k:Nat):Con:=Sig.con { ps:=[.val false (.sl (.int .i64)) (ros (.sl (.int .i64)))],rs:=[.val false [.v (.int .i64)]],ntmps:=18 } (fun x=>Znc k x)
def Znc.cok (k:Nat):=cX cN
def Znc.l0.s (k:Nat):Summ:=lp 18 { tmps:=[(3,.one (.v (.int .i64))),(6,.one (.bor (.int .i64))),(7,.one (.v (.int .i64))),(8,.one (.v (.int .i64)))],slots:=[],nb:=0 } [(.exit 0,{ tmps:=[(3,.one (.v (.int .i64)))],slots:=[],nb:=0 })] (fun j x=>Znc.l0 j x.1 x.2.1 x.2.2.1 x.2.2.2) k
def Znc.l0.ok (k:Nat):=(lA (Znc.cok k):Zn Yb _ (.loop (cO (cO (cR (cL (cR (cR (cB Tryz.f140)))))))) (Znc.l0.s k))
theorem Znc.ok (k:Nat):Zd Yb 140 (Znc.con k):=fP (.two .auto (.two .auto (.two (.two .auto (.one (.sum (Znc.l0.s k)))) .auto))) (Znc.cok k) Tryz.func140 (sC (Znc.l0.ok k) sN)
def Zsd.l0 (k:Nat):Nat→Str→List Int→Int→Int→Option (Str)
 | 0,_,_,_,_=>none
 | j+1,a1,a2,a3,a4=>bif decide (a4<a3) then Ya (at? a2 a4) fun v5=>Ya (Z8b k v5) fun v6=>Ya (Zae a1 v6) fun v7=>Zsd.l0 k j v7 a2 a3 (Yc .i64 (a4+1)) else some a1
def Zsd (k:Nat) (a1:List Int):Option (Str):=Ya (Zsd.l0 k k [] a1 ((a1.length):Int) 0) fun y2=>some y2
def Zsd.con (k:Nat):Con:=Sig.con { ps:=[.val false (.sl (.int .i64)) (ros (.sl (.int .i64)))],rs:=[.val false [.v .str]],ntmps:=18 } (fun x=>Zsd k x)
def Zsd.cok (k:Nat):=cX (cC (Z8b.ok k) cN)
def Zsd.l0.s (k:Nat):Summ:=lp 18 { tmps:=[(3,.one (.v .str)),(6,.one (.bor (.int .i64))),(7,.one (.v (.int .i64))),(8,.one (.v (.int .i64)))],slots:=[],nb:=0 } [(.exit 0,{ tmps:=[(3,.one (.v .str))],slots:=[],nb:=0 })] (fun j x=>Zsd.l0 k j x.1 x.2.1 x.2.2.1 x.2.2.2) k
def Zsd.l0.ok (k:Nat):=(lA (Zsd.cok k):Zn Yb _ (.loop (cO (cO (cR (cL (cR (cR (cB Tryz.f186)))))))) (Zsd.l0.s k))
theorem Zsd.ok (k:Nat):Zd Yb 186 (Zsd.con k):=fP (.two .auto (.two .auto (.two (.two .auto (.one (.sum (Zsd.l0.s k)))) .auto))) (Zsd.cok k) Tryz.func186 (sC (Zsd.l0.ok k) sN)
def Zgk (k:Nat) (a1:G46):Option (Str):=Ya (Znc k a1.2.2.2.2.2.2.1) fun v2=>Ya (Znc k a1.2.2.2.2.2.2.2) fun v3=>Ya (Zsd k [a1.1,a1.2.1,a1.2.2.1,a1.2.2.2.1,a1.2.2.2.2.1,v2,v3]) fun v4=>Ya (Zgi k a1.2.2.2.2.2.1) fun v5=>Ya (Zae v4 v5) fun v6=>some v6
def Zgk.con (k:Nat):Con:=Sig.con { ps:=[.val true T46 (ros T46)],rs:=[.val false [.v .str]],ntmps:=25 } (fun x=>Zgk k x)
theorem Zgk.ok (k:Nat):Zd Yb 97 (Zgk.con k):=fA (cXr true false (cC (Znc.ok k) (cC (Zsd.ok k) (cC (Zgi.ok k) cN)))) Tryz.func97
def Zco (k:Nat) (a1:List Str):Option (Int×List Str×List Z2):=Ya (Zqg a1) fun v2=>let e3:=Yc .i64 ((Yc .i64 (3+v2))+24);Ya (Zdg 16 e3 e3 []) fun v4=>Ya (Zhp 3 (v4.length)) fun v5=>Ya (Zgk k (1,(0,(0,(0,(0,([],([],[])))))))) fun v6=>let e7:=((Z4k v4 (Ye 3) a1),[]);Ya (Zil k e7 v6) fun v8=>Ya (Z7c k e7 v8) fun v9=>some (v2,v9.1,v9.2)
def Zco.con (k:Nat):Con:=Sig.con { ps:=[.val false (.sl .str) (ros (.sl .str))],rs:=[.val true [.v (.int .i64),.own 9 .str,.own 195 Zz]],ntmps:=30 } (fun x=>Zco k x)
theorem Zco.ok (k:Nat):Zd Yb 51 (Zco.con k):=fA (cXr false true (cC (Z7c.ok k) (cC (Zqg.ok k) (cC (Zil.ok k) (cC (Zgk.ok k) cN))))) Tryz.func51
def Zdk (k:Nat) (a1:List Str):Option (Int×List Str×List Z2×Int):=bif decide (400<((a1.length):Int)) then some (0,[],[],2) else Ya (Zek k a1) fun v2=>bif !v2 then some (0,[],[],1) else Ya (Zco k a1) fun v3=>some (v3.1,v3.2.1,v3.2.2,0)
def Zdk.con (k:Nat):Con:=Sig.con { ps:=[.val false (.sl .str) (ros (.sl .str))],rs:=[.val true [.v (.int .i64),.own 9 .str,.own 195 Zz,.v (.int .i64)]],ntmps:=16 } (fun x=>Zdk k x)
theorem Zdk.ok (k:Nat):Zd Yb 9 (Zdk.con k):=fA (cX (cC (Zek.ok k) (cC (Zco.ok k) cN))) Tryz.func9
def Zdd.l0 (k:Nat):Nat→Int→List Str→List Z2→Int→Int→List Str→Option ((List Str))
 | 0,_,_,_,_,_,_=>none
 | j+1,a1,a2,a3,a4,a5,a6=>bif decide (a5<a4) then Ya (Zlf k (a2,a3) (Yc .i64 (3+a5))) fun v7=>Ya (Zfb 16 a6 [v7]) fun v8=>Zdd.l0 k j a1 a2 a3 a4 (Yc .i64 (a5+1)) v8 else some a6
def Zdd (k:Nat) (a1:G28):Option (List Str):=Ya (Zdd.l0 k k a1.1 a1.2.1 a1.2.2 a1.1 0 []) fun y2=>some y2
def Zdd.con (k:Nat):Con:=Sig.con { ps:=[.val true T28 (ros T28)],rs:=[.val false [.own 9 .str]],ntmps:=20 } (fun x=>Zdd k x)
def Zdd.cok (k:Nat):=cXr true false (cC (Zlf.ok k) cN)
def Zdd.l0.s (k:Nat):Summ:=lp 20 { tmps:=[(1,.eptr [.v (.int .i64),.bor .str,.bor Zz]),(3,.one (.own 0)),(6,.one (.v (.int .i64))),(7,.one (.v (.int .i64)))],slots:=[(0,.arr false 9 .str)],nb:=1 } [(.exit 0,{ tmps:=[(3,.one (.own 1))],slots:=[(1,.arr false 9 .str)],nb:=2 })] (fun j x=>Zdd.l0 k j x.1 x.2.1 x.2.2.1 x.2.2.2.1 x.2.2.2.2.1 x.2.2.2.2.2) k
def Zdd.l0.ok (k:Nat):=(lA (Zdd.cok k):Zn Yb _ (.loop (cO (cO (cR (cL (cR (cR (cB Tryz.f58)))))))) (Zdd.l0.s k))
theorem Zdd.ok (k:Nat):Zd Yb 58 (Zdd.con k):=fP (.two .auto (.two .auto (.two (.two .auto (.one (.sum (Zdd.l0.s k)))) .auto))) (Zdd.cok k) Tryz.func58 (sC (Zdd.l0.ok k) sN)
def Z9n (a1:Str):Option (Bool):=some (decide (96<((a1.length):Int)))
def Z9n.con (k:Nat):Con:=Sig.con { ps:=[.val false .str (ros .str)],rs:=[.val false [.v .bool]],ntmps:=6 } (fun x=>Z9n x)
theorem Z9n.ok (k:Nat):Zd Yb 213 (Z9n.con k):=fA (cX cN) Tryz.func213
def Z0d.l0:Nat→List Str→Int→Int→Option (Unit ⊕ Int)
 | 0,_,_,_=>none
 | j+1,a1,a2,a3=>bif decide (a3<a2) then Ya (at? a1 a3) fun v4=>Ya (Z9n v4) fun v5=>bif v5 then some (.inr a3) else Z0d.l0 j a1 a2 (Yc .i64 (a3+1)) else some (.inl ())
def Z0d (k:Nat) (a1:List Str):Option (Int):=Ya (Z0d.l0 k a1 ((a1.length):Int) 0) fun
  | .inl y2=>some (-1)
  | .inr y3=>some y3
def Z0d.con (k:Nat):Con:=Sig.con { ps:=[.val false (.sl .str) (ros (.sl .str)),.fn 213 []],rs:=[.val false [.v (.int .i64)]],ntmps:=19 } (fun x=>Z0d k x)
def Z0d.cok (k:Nat):=cX (cC (Z9n.ok k) cN)
def Z0d.l0.s (k:Nat):Summ:=lp 19 { tmps:=[(0,.one (.bor .str)),(1,.fn 213 []),(7,.one (.v (.int .i64))),(8,.one (.v (.int .i64)))],slots:=[],nb:=0 } [(.exit 0,{ tmps:=[],slots:=[],nb:=0 }),(.ret,{ tmps:=[(4,.one (.v (.int .i64)))],slots:=[],nb:=0 })] (fun j x=>Z0d.l0 j x.1 x.2.1 x.2.2) k
def Z0d.l0.ok (k:Nat):=(lA (Z0d.cok k):Zn Yb _ (.loop (cO (cO (cR (cL (cR (cB Tryz.f184))))))) (Z0d.l0.s k))
theorem Z0d.ok (k:Nat):Zd Yb 184 (Z0d.con k):=fP (.two .auto (.two (.two .auto (.one (.sum (Z0d.l0.s k)))) .auto)) (Z0d.cok k) Tryz.func184 (sC (Z0d.l0.ok k) sN)
def Z1o (k:Nat) (a1:List Str):Option (Bool):=Ya (Z0d k a1) fun v2=>some (decide (0≤v2))
def Z1o.con (k:Nat):Con:=Sig.con { ps:=[.val false (.sl .str) (ros (.sl .str)),.fn 213 []],rs:=[.val false [.v .bool]],ntmps:=9 } (fun x=>Z1o k x)
theorem Z1o.ok (k:Nat):Zd Yb 94 (Z1o.con k):=fA (cX (cC (Z0d.ok k) cN)) Tryz.func94
def Zcl (a1:G26) (a2:Int):Option (Bool):=Ya (Zqg a1.1) fun v3=>Ya (Zcb a2 0 (Yc .i64 (v3-1))) fun v4=>some v4
def Zcl.con (k:Nat):Con:=Sig.con { ps:=[.val true T26 (ros T26),.val false (.int .i64) (ros (.int .i64))],rs:=[.val false [.v .bool]],ntmps:=11 } (fun x=>Zcl x.1 x.2)
theorem Zcl.ok (k:Nat):Zd Yb 147 (Zcl.con k):=fA (cXr true false (cC (Zqg.ok k) (cC (Zcb.ok k) cN))) Tryz.func147
def Zoe.l0 (k:Nat):Nat→List Str→List Z2→List Z2→Int→Int→Option (Unit ⊕ Bool)
 | 0,_,_,_,_,_=>none
 | j+1,a1,a2,a3,a4,a5=>bif decide (a5<a4) then Ya (at? a3 a5) fun v6=>Ya (Zcl (a1,a2) v6.1) fun v7=>bif (!v7)||(decide (96<((v6.2.length):Int))) then some (.inr false) else Ya (Zsj k (a1,a2) v6.1) fun v8=>bif decide (v8<a5) then some (.inr false) else Zoe.l0 k j a1 a2 a3 a4 (Yc .i64 (a5+1)) else some (.inl ())
def Zoe (k:Nat) (a1:G26):Option (Bool):=Ya (Zqg a1.1) fun v2=>Ya (Zcb v2 1 40) fun v3=>let e4:=((a1.2.length):Int);bif (!v3)||(decide (((a1.1.length):Int)<e4)) then some false else Ya (Z1o k a1.1) fun v5=>bif v5 then some false else Ya (Zoe.l0 k k a1.1 a1.2 a1.2 e4 0) fun
  | .inl y6=>some true
  | .inr y7=>some y7
def Zoe.con (k:Nat):Con:=Sig.con { ps:=[.val true T26 (ros T26)],rs:=[.val false [.v .bool]],ntmps:=52 } (fun x=>Zoe k x)
def Zoe.cok (k:Nat):=cXr true false (cC (Zqg.ok k) (cC (Z1o.ok k) (cC (Zcb.ok k) (cC (Zcl.ok k) (cC (Zsj.ok k) cN)))))
def Zoe.l0.s (k:Nat):Summ:=lp 52 { tmps:=[(1,.eptr [.bor .str,.bor Zz]),(25,.one (.bor Zz)),(26,.one (.v (.int .i64))),(27,.one (.v (.int .i64)))],slots:=[],nb:=0 } [(.exit 0,{ tmps:=[],slots:=[],nb:=0 }),(.ret,{ tmps:=[(2,.one (.v .bool))],slots:=[],nb:=0 })] (fun j x=>Zoe.l0 k j x.1 x.2.1 x.2.2.1 x.2.2.2.1 x.2.2.2.2) k
def Zoe.l0.ok (k:Nat):=(lA (Zoe.cok k):Zn Yb _ (.loop (cO (cO (cR (cL (cR (cR (cB Tryz.f120)))))))) (Zoe.l0.s k))
theorem Zoe.ok (k:Nat):Zd Yb 120 (Zoe.con k):=fP (.two .auto (.two .auto (.two (.two .auto (.one (.sum (Zoe.l0.s k)))) .auto))) (Zoe.cok k) Tryz.func120 (sC (Zoe.l0.ok k) sN)
def Zed.l0:Nat→Int→Int→List Int→Option ((List Int))
 | 0,_,_,_=>none
 | j+1,a1,a2,a3=>bif decide (a2<24) then Ya (Zkb a2) fun v4=>let e5:=Yc .i64 (a2+1);bif (intBits .and .i64 (shr .i64 a1 a2) 1)==1 then Ya (Zfb 8 a3 [a2]) fun v6=>Zed.l0 j a1 e5 v6 else Zed.l0 j a1 e5 a3 else some a3
def Zed (k:Nat) (a1:Int):Option (List Int):=Ya (Zed.l0 k a1 0 []) fun y2=>some y2
def Zed.con (k:Nat):Con:=Sig.con { ps:=[.val false (.int .i64) (ros (.int .i64))],rs:=[.val false [.own 2 (.int .i64)]],ntmps:=19 } (fun x=>Zed k x)
def Zed.cok (k:Nat):=cX cN
def Zed.l0.s (k:Nat):Summ:=lp 19 { tmps:=[(0,.one (.v (.int .i64))),(3,.one (.own 0)),(5,.one (.v (.int .i64)))],slots:=[(0,.arr false 2 (.int .i64))],nb:=1 } [(.exit 0,{ tmps:=[(3,.one (.own 1))],slots:=[(1,.arr false 2 (.int .i64))],nb:=2 })] (fun j x=>Zed.l0 j x.1 x.2.1 x.2.2) k
def Zed.l0.ok (k:Nat):=(lA (Zed.cok k):Zn Yb _ (.loop (cO (cO (cR (cL (cR (cR (cB Tryz.f139)))))))) (Zed.l0.s k))
theorem Zed.ok (k:Nat):Zd Yb 139 (Zed.con k):=fP (.two .auto (.two .auto (.two (.two .auto (.one (.sum (Zed.l0.s k)))) .auto))) (Zed.cok k) Tryz.func139 (sC (Zed.l0.ok k) sN)
def Zld.l0:Nat→List Int→List Int→Int→Int→Option (Unit ⊕ Bool)
 | 0,_,_,_,_=>none
 | j+1,a1,a2,a3,a4=>bif decide (a4<a3) then Ya (at? a2 a4) fun v5=>Ya (Zcb v5 0 23) fun v6=>bif !v6 then some (.inr false) else let e7:=Yc .i64 (a4+1);bif decide (0<a4) then Ya (at? a1 (Yc .i64 (a4-1))) fun v8=>bif decide (v5≤v8) then some (.inr false) else Zld.l0 j a1 a2 a3 e7 else Zld.l0 j a1 a2 a3 e7 else some (.inl ())
def Zld (k:Nat) (a1:List Int):Option (Bool):=Ya (Zld.l0 k a1 a1 ((a1.length):Int) 0) fun
  | .inl y2=>some true
  | .inr y3=>some y3
def Zld.con (k:Nat):Con:=Sig.con { ps:=[.val false (.sl (.int .i64)) (ros (.sl (.int .i64)))],rs:=[.val false [.v .bool]],ntmps:=29 } (fun x=>Zld k x)
def Zld.cok (k:Nat):=cX (cC (Zcb.ok k) cN)
def Zld.l0.s (k:Nat):Summ:=lp 29 { tmps:=[(0,.one (.bor (.int .i64))),(5,.one (.bor (.int .i64))),(6,.one (.v (.int .i64))),(7,.one (.v (.int .i64)))],slots:=[],nb:=0 } [(.exit 0,{ tmps:=[],slots:=[],nb:=0 }),(.ret,{ tmps:=[(2,.one (.v .bool))],slots:=[],nb:=0 })] (fun j x=>Zld.l0 j x.1 x.2.1 x.2.2.1 x.2.2.2) k
def Zld.l0.ok (k:Nat):=(lA (Zld.cok k):Zn Yb _ (.loop (cO (cO (cR (cL (cR (cB Tryz.f65))))))) (Zld.l0.s k))
theorem Zld.ok (k:Nat):Zd Yb 65 (Zld.con k):=fP (.two .auto (.two (.two .auto (.one (.sum (Zld.l0.s k)))) .auto)) (Zld.cok k) Tryz.func65 (sC (Zld.l0.ok k) sN)
def Z9i (a1:List Int):Option (Int):=some ((a1.length):Int)
def Z9i.con (k:Nat):Con:=Sig.con { ps:=[.val false (.sl (.int .i64)) (ros (.sl (.int .i64)))],rs:=[.val false [.v (.int .i64)]],ntmps:=5 } (fun x=>Z9i x)
theorem Z9i.ok (k:Nat):Zd Yb 137 (Z9i.con k):=fA (cX cN) Tryz.func137
def Zbo (k:Nat) (a1:G46):Option (Bool):=Ya (Zcb a1.1 1 5) fun v2=>bif !v2 then some false else Ya (Zld k a1.2.2.2.2.2.2.1) fun v3=>bif !v3 then some false else Ya (Zld k a1.2.2.2.2.2.2.2) fun v4=>bif !v4 then some false else Ya (Znc k a1.2.2.2.2.2.2.1) fun v5=>Ya (Znc k a1.2.2.2.2.2.2.2) fun v6=>bif (intBits .and .i64 v5 v6) != 0 then some false else let e7:=a1.2.1==0;let e8:=a1.2.2.2.2.1==0;bif a1.1==1 then some (((((e7&&(a1.2.2.1==0))&&(a1.2.2.2.1==0))&&e8)&&(a1.2.2.2.2.2.1==[]))&&(((a1.2.2.2.2.2.2.2.length):Int)==0)) else Ya (Zcb a1.2.2.1 1 20) fun v9=>bif v9 then Ya (Zcb a1.2.2.2.1 0 4) fun v10=>bif v10 then Ya (Z9i a1.2.2.2.2.2.2.2) fun v11=>bif v11==(Yc .i64 (a1.2.2.1+a1.2.2.2.1)) then bif ((a1.2.2.2.2.2.1.length):Int)==32 then Ya (Zcb a1.2.1 0 2) fun v12=>bif v12 then let e13:=a1.1==5;bif e7 then Ya (Zcb a1.2.2.2.2.1 0 40) fun v14=>bif v14 then bif e8 then some true else some e13 else some false else bif a1.1==4 then Ya (Zcb a1.2.2.2.2.1 0 40) fun v15=>bif v15 then bif e8 then some true else some e13 else some false else some false else some false else some false else some false else some false else some false
def Zbo.con (k:Nat):Con:=Sig.con { ps:=[.val true T46 (ros T46)],rs:=[.val false [.v .bool]],ntmps:=116 } (fun x=>Zbo k x)
theorem Zbo.ok (k:Nat):Zd Yb 217 (Zbo.con k):=fA (cXr true false (cC (Zld.ok k) (cC (Zcb.ok k) (cC (Z9i.ok k) (cC (Znc.ok k) cN))))) Tryz.func217
def Zjo (k:Nat) (a1:Str):Option (Int×Int×Int×Int×Int×Str×List Int×List Int×Bool):=Ya (Z9b k (a1,(0,false))) fun v2=>Ya (Z9b k v2.2) fun v3=>Ya (Z9b k v3.2) fun v4=>Ya (Z9b k v4.2) fun v5=>Ya (Z9b k v5.2) fun v6=>Ya (Z9b k v6.2) fun v7=>Ya (Z9b k v7.2) fun v8=>Ya (Zbg k v8.2) fun v9=>bif v9.2.2.2||(v9.2.2.1 != ((a1.length):Int)) then some (0,0,0,0,0,[],[],[],false) else Ya (Zcb v7.1 0 16777215) fun v10=>bif !v10 then some (0,0,0,0,0,[],[],[],false) else Ya (Zcb v8.1 0 16777215) fun v11=>bif !v11 then some (0,0,0,0,0,[],[],[],false) else Ya (Zed k v7.1) fun v12=>Ya (Zed k v8.1) fun v13=>Ya (Zbo k (v2.1,(v3.1,(v4.1,(v5.1,(v6.1,(v9.1,(v12,v13)))))))) fun v14=>bif !v14 then some (0,0,0,0,0,[],[],[],false) else some (v2.1,v3.1,v4.1,v5.1,v6.1,v9.1,v12,v13,true)
def Zjo.con (k:Nat):Con:=Sig.con { ps:=[.val false .str (ros .str)],rs:=[.val true [.v (.int .i64),.v (.int .i64),.v (.int .i64),.v (.int .i64),.v (.int .i64),.v .str,.own 2 (.int .i64),.own 2 (.int .i64)],.val false [.v .bool]],ntmps:=64 } (fun x=>Zjo k x)
theorem Zjo.ok (k:Nat):Zd Yb 122 (Zjo.con k):=fA (cX (cC (Zcb.ok k) (cC (Zed.ok k) (cC (Z9b.ok k) (cC (Zbg.ok k) (cC (Zbo.ok k) cN)))))) Tryz.func122
def Zsf (k:Nat) (a1:G28):Option (Int×Int×Int×Int×Int×Str×List Int×List Int×Bool):=Ya (Z8i a1.1) fun v2=>bif !v2 then some (0,0,0,0,0,[],[],[],false) else Ya (Zoe k a1.2) fun v3=>bif !v3 then some (0,0,0,0,0,[],[],[],false) else Ya (Zqg a1.2.1) fun v4=>bif v4 != (Yc .i64 ((Yc .i64 (3+a1.1))+24)) then some (0,0,0,0,0,[],[],[],false) else Ya (Zxc k a1.2) fun v5=>bif decide (v5.2.2.2<0) then some (0,0,0,0,0,[],[],[],false) else Ya (Zjo k v5.2.1) fun v6=>some (v6.1,v6.2.1,v6.2.2.1,v6.2.2.2.1,v6.2.2.2.2.1,v6.2.2.2.2.2.1,v6.2.2.2.2.2.2.1,v6.2.2.2.2.2.2.2.1,v6.2.2.2.2.2.2.2.2)
def Zsf.con (k:Nat):Con:=Sig.con { ps:=[.val true T28 (ros T28)],rs:=[.val true [.v (.int .i64),.v (.int .i64),.v (.int .i64),.v (.int .i64),.v (.int .i64),.v .str,.own 2 (.int .i64),.own 2 (.int .i64)],.val false [.v .bool]],ntmps:=42 } (fun x=>Zsf k x)
theorem Zsf.ok (k:Nat):Zd Yb 59 (Zsf.con k):=fA (cXr true false (cC (Z8i.ok k) (cC (Zqg.ok k) (cC (Zoe.ok k) (cC (Zxc.ok k) (cC (Zjo.ok k) cN)))))) Tryz.func59
def Z2g (a1:G28) (a2:Int):Option (Int):=some (Yc .i64 ((Yc .i64 (3+a1.1))+a2))
def Z2g.con (k:Nat):Con:=Sig.con { ps:=[.val true T28 (ros T28),.val false (.int .i64) (ros (.int .i64))],rs:=[.val false [.v (.int .i64)]],ntmps:=10 } (fun x=>Z2g x.1 x.2)
theorem Z2g.ok (k:Nat):Zd Yb 145 (Z2g.con k):=fA (cXr true false cN) Tryz.func145
def Zfi (k:Nat) (a1:G28) (a2:Int):Option (Str):=Ya (Z2g a1 a2) fun v3=>Ya (Zlf k a1.2 v3) fun v4=>some v4
def Zfi.con (k:Nat):Con:=Sig.con { ps:=[.val true T28 (ros T28),.val false (.int .i64) (ros (.int .i64))],rs:=[.val false [.v .str]],ntmps:=11 } (fun x=>Zfi k x.1 x.2)
theorem Zfi.ok (k:Nat):Zd Yb 144 (Zfi.con k):=fA (cXr true false (cC (Zlf.ok k) (cC (Z2g.ok k) cN))) Tryz.func144
def Zoh (a1:Int):Option (Bool):=Ya (Zcb a1 0 1000000) fun v2=>some v2
def Zoh.con (k:Nat):Con:=Sig.con { ps:=[.val false (.int .i64) (ros (.int .i64))],rs:=[.val false [.v .bool]],ntmps:=5 } (fun x=>Zoh x)
theorem Zoh.ok (k:Nat):Zd Yb 125 (Zoh.con k):=fA (cX (cC (Zcb.ok k) cN)) Tryz.func125
def Zpc.j0 (a1:Int) (a2:Bool) (a3:Int) (a4:Int) (a5:Int) (a6:Str):Option ((Bool×Int×Int×Int×Str)):=bif (a3==3)||(a3==4) then Ya (Zcb a5 0 (Yc .i64 (a1-1))) fun v7=>some (v7,a3,a4,a5,a6) else some (a2,a3,a4,a5,a6)
def Zpc.j1 (a1:Bool) (a2:Int) (a3:Int) (a4:Int) (a5:Str):Option ((Bool×Int×Int×Int×Str)):=bif (a2==2)||(a2==4) then some (((a5.length):Int)==8,a2,a3,a4,a5) else some (a1,a2,a3,a4,a5)
def Zpc (a1:G52) (a2:Int):Option (Bool):=Ya (Zcb a1.2.1 0 (Yc .i64 (a2-1))) fun v3=>Ya (Zpc.j0 a2 (a1.2.2.1==0) a1.1 a1.2.1 a1.2.2.1 a1.2.2.2) fun y4=>Ya (Zpc.j1 (a1.2.2.2==[]) y4.2.1 y4.2.2.1 y4.2.2.2.1 y4.2.2.2.2) fun y5=>bif y5.2.1==5 then Ya (Zoh y5.2.2.2.1) fun v6=>Ya (Zcb y5.2.1 1 5) fun v7=>some (((v7&&(y5.2.2.1==0))&&v6)&&y5.1) else Ya (Zcb y5.2.1 1 5) fun v8=>some (((v8&&v3)&&y4.1)&&y5.1)
def Zpc.con (k:Nat):Con:=Sig.con { ps:=[.val true T52 (ros T52),.val false (.int .i64) (ros (.int .i64))],rs:=[.val false [.v .bool]],ntmps:=65 } (fun x=>Zpc x.1 x.2)
def Zpc.cok (k:Nat):=cX (cC (Zcb.ok k) (cC (Zoh.ok k) cN))
def Zpc.j0.s (k:Nat):Summ:=lq 65 { tmps:=[(1,.one (.v (.int .i64))),(2,.one (.ptr 0 0)),(6,.one (.v .bool))],slots:=[(0,.box 52 [.v (.int .i64),.v (.int .i64),.v (.int .i64),.v .str])],nb:=1 } [(.nrm,{ tmps:=[(6,.one (.v .bool))],slots:=[(0,.box 52 [.v (.int .i64),.v (.int .i64),.v (.int .i64),.v .str])],nb:=1 })] (fun x=>Zpc.j0 x.1 x.2.1 x.2.2.1 x.2.2.2.1 x.2.2.2.2.1 x.2.2.2.2.2)
def Zpc.j0.ok (k:Nat):=(jA (Zpc.cok k):Zn Yb _ (cL (cR (cR (cB Yr)))) (Zpc.j0.s k))
def Zpc.j1.s (k:Nat):Summ:=lq 65 { tmps:=[(2,.one (.ptr 0 0)),(7,.one (.v .bool))],slots:=[(0,.box 52 [.v (.int .i64),.v (.int .i64),.v (.int .i64),.v .str])],nb:=1 } [(.nrm,{ tmps:=[(7,.one (.v .bool))],slots:=[(0,.box 52 [.v (.int .i64),.v (.int .i64),.v (.int .i64),.v .str])],nb:=1 })] (fun x=>Zpc.j1 x.1 x.2.1 x.2.2.1 x.2.2.2.1 x.2.2.2.2)
def Zpc.j1.ok (k:Nat):=(jA (Zpc.cok k):Zn Yb _ (cL (cR (cR (cR (cB Yr))))) (Zpc.j1.s k))
theorem Zpc.ok (k:Nat):Zd Yb 124 (Zpc.con k):=fP (.two .auto (.two .auto (.two (.sum (Zpc.j0.s k)) (.two (.sum (Zpc.j1.s k)) .auto)))) (Zpc.cok k) Tryz.func124 (sC (Zpc.j0.ok k) (sC (Zpc.j1.ok k) sN))
def Zho (k:Nat) (a1:Zlz):Option (Int×Int×Int×Str×Str×Int×Bool):=Ya (Z9b k a1) fun v2=>Ya (Z9b k v2.2) fun v3=>Ya (Z9b k v3.2) fun v4=>Ya (Zbg k v4.2) fun v5=>some (v2.1,v3.1,v4.1,v5.1,v5.2.1,v5.2.2.1,v5.2.2.2)
def Zho.con (k:Nat):Con:=Sig.con { ps:=[.ref 234 Zhn (Zpe Zhn)],rs:=[.val true [.v (.int .i64),.v (.int .i64),.v (.int .i64),.v .str]],ntmps:=12 } (fun x=>Zho k x)
theorem Zho.ok (k:Nat):Zd Yb 293 (Zho.con k):=fA (cX (cC (Z9b.ok k) (cC (Zbg.ok k) cN))) Tryz.func293
def Zkl (k:Nat) (a1:Str) (a2:Int):Option (Int×Int×Int×Str×Int):=Ya (Zuj k a1) fun v3=>bif v3.2 != 0 then some (0,0,0,[],v3.2) else Ya (Z9b k (v3.1,(0,false))) fun v4=>Ya (Zho k v4.2) fun v5=>bif v5.2.2.2.2.2.2||(v5.2.2.2.2.2.1 != ((v3.1.length):Int)) then some (0,0,0,[],3) else Ya (Zoh v4.1) fun v6=>bif !v6 then some (0,0,0,[],3) else Ya (Zpc (v5.1,(v5.2.1,(v5.2.2.1,v5.2.2.2.1))) 8) fun v7=>bif !v7 then some (0,0,0,[],3) else bif v4.1 != a2 then some (0,0,0,[],6) else some (v5.1,v5.2.1,v5.2.2.1,v5.2.2.2.1,0)
def Zkl.con (k:Nat):Con:=Sig.con { ps:=[.val false .str (ros .str),.val false (.int .i64) (ros (.int .i64))],rs:=[.val true [.v (.int .i64),.v (.int .i64),.v (.int .i64),.v .str],.val false [.v (.int .i64)]],ntmps:=58 } (fun x=>Zkl k x.1 x.2)
theorem Zkl.ok (k:Nat):Zd Yb 261 (Zkl.con k):=fA (cX (cC (Zpc.ok k) (cC (Zoh.ok k) (cC (Z9b.ok k) (cC (Zuj.ok k) (cC (Zho.ok k) cN)))))) Tryz.func261
def Zbf.l0 (k:Nat):Nat→List Str→Int→Int→List G52→Option ((List G52))
 | 0,_,_,_,_=>none
 | j+1,a1,a2,a3,a4=>bif decide (a3<a2) then Ya (at? a1 a3) fun v5=>Ya (Zkl k v5 a3) fun v6=>bif v6.2.2.2.2 != 0 then some a4 else Ya (Zfb 40 a4 [(v6.1,(v6.2.1,(v6.2.2.1,v6.2.2.2.1)))]) fun v7=>Zbf.l0 k j a1 a2 (Yc .i64 (a3+1)) v7 else some a4
def Zbf (k:Nat) (a1:List Str):Option (List G52):=Ya (Zbf.l0 k k a1 ((a1.length):Int) 0 []) fun y2=>some y2
def Zbf.con (k:Nat):Con:=Sig.con { ps:=[.val false (.sl .str) (ros (.sl .str))],rs:=[.val false [.own 52 T52]],ntmps:=29 } (fun x=>Zbf k x)
def Zbf.cok (k:Nat):=cX (cC (Zkl.ok k) cN)
def Zbf.l0.s (k:Nat):Summ:=lp 29 { tmps:=[(3,.one (.own 0)),(8,.one (.bor .str)),(9,.one (.v (.int .i64))),(10,.one (.v (.int .i64)))],slots:=[(0,.arr false 52 T52)],nb:=1 } [(.exit 0,{ tmps:=[(3,.one (.own 1))],slots:=[(1,.arr false 52 T52)],nb:=2 })] (fun j x=>Zbf.l0 k j x.1 x.2.1 x.2.2.1 x.2.2.2) k
def Zbf.l0.ok (k:Nat):=(lA (Zbf.cok k):Zn Yb _ (.loop (cO (cO (cR (cL (cR (cR (cB Tryz.f195)))))))) (Zbf.l0.s k))
theorem Zbf.ok (k:Nat):Zd Yb 195 (Zbf.con k):=fP (.two .auto (.two .auto (.two (.two .auto (.one (.sum (Zbf.l0.s k)))) .auto))) (Zbf.cok k) Tryz.func195 (sC (Zbf.l0.ok k) sN)
def Z1c.l0 (k:Nat):Nat→Int→List Str→List Z2→List Int→Int→Int→List Str→Option ((List Str))
 | 0,_,_,_,_,_,_,_=>none
 | j+1,a1,a2,a3,a4,a5,a6,a7=>bif decide (a6<a5) then Ya (at? a4 a6) fun v8=>Ya (Zfi k (a1,(a2,a3)) v8) fun v9=>Ya (Zfb 16 a7 [v9]) fun v10=>Z1c.l0 k j a1 a2 a3 a4 a5 (Yc .i64 (a6+1)) v10 else some a7
def Z1c (k:Nat) (a1:G28) (a2:G46):Option (List G52):=Ya (Z3b a2.2.2.2.2.2.2.2 a2.2.2.2.1 ((a2.2.2.2.2.2.2.2.length):Int)) fun v3=>Ya (Z1c.l0 k k a1.1 a1.2.1 a1.2.2 v3 ((v3.length):Int) 0 []) fun y4=>Ya (Zbf k y4) fun v5=>some v5
def Z1c.con (k:Nat):Con:=Sig.con { ps:=[.val true T28 (ros T28),.val true T46 (ros T46)],rs:=[.val false [.own 52 T52]],ntmps:=27 } (fun x=>Z1c k x.1 x.2)
def Z1c.cok (k:Nat):=cXr true false (cC (Zfi.ok k) (cC (Zbf.ok k) cN))
def Z1c.l0.s (k:Nat):Summ:=lp 27 { tmps:=[(2,.eptr [.v (.int .i64),.bor .str,.bor Zz]),(5,.one (.own 0)),(12,.one (.bor (.int .i64))),(13,.one (.v (.int .i64))),(14,.one (.v (.int .i64)))],slots:=[(0,.arr false 9 .str)],nb:=1 } [(.exit 0,{ tmps:=[(5,.one (.own 1))],slots:=[(1,.arr false 9 .str)],nb:=2 })] (fun j x=>Z1c.l0 k j x.1 x.2.1 x.2.2.1 x.2.2.2.1 x.2.2.2.2.1 x.2.2.2.2.2.1 x.2.2.2.2.2.2) k
def Z1c.l0.ok (k:Nat):=(lA (Z1c.cok k):Zn Yb _ (.loop (cO (cO (cR (cL (cR (cR (cB Tryz.f108)))))))) (Z1c.l0.s k))
theorem Z1c.ok (k:Nat):Zd Yb 108 (Z1c.con k):=fP (.two .auto (.two .auto (.two (.two .auto (.one (.sum (Z1c.l0.s k)))) .auto))) (Z1c.cok k) Tryz.func108 (sC (Z1c.l0.ok k) sN)
def Zlo (a1:G52) (a2:Int):Option (Bool):=Ya (Zpc a1 a2) fun v3=>some (!v3)
def Zlo.con (k:Nat):Con:=Sig.con { ps:=[.val true T52 (ros T52),.rptr (.int .i64)],rs:=[.val false [.v .bool]],ntmps:=8 } (fun x=>Zlo x.1 x.2)
theorem Zlo.ok (k:Nat):Zd Yb 197 (Zlo.con k):=fA (cX (cC (Zpc.ok k) cN)) Tryz.func197
def Zwd.l0:Nat→List G52→Int→Int→Int→Option (Int ⊕ (Int×Int))
 | 0,_,_,_,_=>none
 | j+1,a1,a2,a3,a4=>bif decide (a3<a2) then Ya (at? a1 a3) fun v5=>Ya (Zlo v5 a4) fun v6=>bif v6 then some (.inr (a3,a4)) else Zwd.l0 j a1 a2 (Yc .i64 (a3+1)) a4 else some (.inl a4)
def Zwd (k:Nat) (a1:List G52) (a2:Int):Option (Int×Int):=Ya (Zwd.l0 k a1 ((a1.length):Int) 0 a2) fun
  | .inl y3=>some ((-1),y3)
  | .inr y4=>some (y4.1,y4.2)
def Zwd.con (k:Nat):Con:=Sig.con { ps:=[.val false (.sl T52) (ros (.sl T52)),.fn 197 [(2,(.int .i64),(Zpe (.int .i64)))]],rs:=[.val false [.v (.int .i64)]],ntmps:=19 } (fun x=>Zwd k x.1 x.2)
def Zwd.cok (k:Nat):=cX (cC (Zlo.ok k) cN)
def Zwd.l0.s (k:Nat):Summ:=lp 19 { tmps:=[(0,.one (.bor T52)),(1,.fn 197 [.ptr 0 0]),(7,.one (.v (.int .i64))),(8,.one (.v (.int .i64)))],slots:=[(0,.box 2 [.v (.int .i64)])],nb:=1 } [(.exit 0,{ tmps:=[],slots:=[(0,.box 2 [.v (.int .i64)])],nb:=1 }),(.ret,{ tmps:=[(4,.one (.v (.int .i64)))],slots:=[(0,.box 2 [.v (.int .i64)])],nb:=1 })] (fun j x=>Zwd.l0 j x.1 x.2.1 x.2.2.1 x.2.2.2) k
def Zwd.l0.ok (k:Nat):=(lA (Zwd.cok k):Zn Yb _ (.loop (cO (cO (cR (cL (cR (cB Yk))))))) (Zwd.l0.s k))
theorem Zwd.ok (k:Nat):Zd Yb 262 (Zwd.con k):=fP (.two .auto (.two (.two .auto (.one (.sum (Zwd.l0.s k)))) .auto)) (Zwd.cok k) Ym (sC (Zwd.l0.ok k) sN)
def Zzo (k:Nat) (a1:List G52) (a2:Int):Option (Bool×Int):=Ya (Zwd k a1 a2) fun v3=>some (decide (0≤v3.1),v3.2)
def Zzo.con (k:Nat):Con:=Sig.con { ps:=[.val false (.sl T52) (ros (.sl T52)),.fn 197 [(2,(.int .i64),(Zpe (.int .i64)))]],rs:=[.val false [.v .bool]],ntmps:=9 } (fun x=>Zzo k x.1 x.2)
theorem Zzo.ok (k:Nat):Zd Yb 196 (Zzo.con k):=fA (cX (cC (Zwd.ok k) cN)) Tryz.func196
def Z9p (a1:G52) (a2:Int):Option (Bool):=some ((a1.1 != 5)&&(a1.2.1==a2))
def Z9p.con (k:Nat):Con:=Sig.con { ps:=[.val true T52 (ros T52),.rptr (.int .i64)],rs:=[.val false [.v .bool]],ntmps:=13 } (fun x=>Z9p x.1 x.2)
theorem Z9p.ok (k:Nat):Zd Yb 263 (Z9p.con k):=fA (cX cN) Tryz.func263
def Zxd.l0:Nat→List G52→Int→Int→Int→Option (Int ⊕ (Int×Int))
 | 0,_,_,_,_=>none
 | j+1,a1,a2,a3,a4=>bif decide (a3<a2) then Ya (at? a1 a3) fun v5=>Ya (Z9p v5 a4) fun v6=>bif v6 then some (.inr (a3,a4)) else Zxd.l0 j a1 a2 (Yc .i64 (a3+1)) a4 else some (.inl a4)
def Zxd (k:Nat) (a1:List G52) (a2:Int):Option (Int×Int):=Ya (Zxd.l0 k a1 ((a1.length):Int) 0 a2) fun
  | .inl y3=>some ((-1),y3)
  | .inr y4=>some (y4.1,y4.2)
def Zxd.con (k:Nat):Con:=Sig.con { ps:=[.val false (.sl T52) (ros (.sl T52)),.fn 263 [(2,(.int .i64),(Zpe (.int .i64)))]],rs:=[.val false [.v (.int .i64)]],ntmps:=19 } (fun x=>Zxd k x.1 x.2)
def Zxd.cok (k:Nat):=cX (cC (Z9p.ok k) cN)
def Zxd.l0.s (k:Nat):Summ:=lp 19 { tmps:=[(0,.one (.bor T52)),(1,.fn 263 [.ptr 0 0]),(7,.one (.v (.int .i64))),(8,.one (.v (.int .i64)))],slots:=[(0,.box 2 [.v (.int .i64)])],nb:=1 } [(.exit 0,{ tmps:=[],slots:=[(0,.box 2 [.v (.int .i64)])],nb:=1 }),(.ret,{ tmps:=[(4,.one (.v (.int .i64)))],slots:=[(0,.box 2 [.v (.int .i64)])],nb:=1 })] (fun j x=>Zxd.l0 j x.1 x.2.1 x.2.2.1 x.2.2.2) k
def Zxd.l0.ok (k:Nat):=(lA (Zxd.cok k):Zn Yb _ (.loop (cO (cO (cR (cL (cR (cB Yk))))))) (Zxd.l0.s k))
theorem Zxd.ok (k:Nat):Zd Yb 262 (Zxd.con k):=fP (.two .auto (.two (.two .auto (.one (.sum (Zxd.l0.s k)))) .auto)) (Zxd.cok k) Ym (sC (Zxd.l0.ok k) sN)
def Zmo (k:Nat) (a1:List G52) (a2:Int):Option (Int):=Ya (Zxd k a1 a2) fun v3=>some v3.1
def Zmo.con (k:Nat):Con:=Sig.con { ps:=[.val false (.sl T52) (ros (.sl T52)),.val false (.int .i64) (ros (.int .i64))],rs:=[.val false [.v (.int .i64)]],ntmps:=8 } (fun x=>Zmo k x.1 x.2)
theorem Zmo.ok (k:Nat):Zd Yb 198 (Zmo.con k):=fA (cX (cC (Zxd.ok k) cN)) Tryz.func198
def Z8c.l0 (k:Nat):Nat→List G52→Int→Bool→List G52→Int→Int→Option (Bool ⊕ Int)
 | 0,_,_,_,_,_,_=>none
 | j+1,a1,a2,a3,a4,a5,a6=>bif decide (a6<a5) then Ya (at? a4 a6) fun v7=>let e8:=Yc .i64 (a6+1);bif v7.1 != 5 then Ya (Zmo k a1 v7.2.1) fun v9=>bif decide (v9<a6) then some (.inr 12) else Z8c.l0 k j a1 a2 a3 a4 a5 e8 else Z8c.l0 k j a1 v7.2.2.1 (a3&&(decide (a2<v7.2.2.1))) a4 a5 e8 else some (.inl a3)
def Z8c (k:Nat) (a1:List G52) (a2:Int):Option (Int):=Ya (Z8i a2) fun v3=>bif (!v3)||(decide (20<((a1.length):Int))) then some 1 else Ya (Zzo k a1 a2) fun v4=>bif v4.1 then some 1 else Ya (Z8c.l0 k k a1 (-1) true a1 ((a1.length):Int) 0) fun
  | .inl y5=>bif !y5 then some 8 else some 0
  | .inr y6=>some y6
def Z8c.con (k:Nat):Con:=Sig.con { ps:=[.val false (.sl T52) (ros (.sl T52)),.val false (.int .i64) (ros (.int .i64))],rs:=[.val false [.v (.int .i64)]],ntmps:=50 } (fun x=>Z8c k x.1 x.2)
def Z8c.cok (k:Nat):=cX (cC (Z8i.ok k) (cC (Zzo.ok k) (cC (Zmo.ok k) cN)))
def Z8c.l0.s (k:Nat):Summ:=lp 50 { tmps:=[(0,.one (.bor T52)),(5,.one (.v (.int .i64))),(6,.one (.v .bool)),(22,.one (.bor T52)),(23,.one (.v (.int .i64))),(24,.one (.v (.int .i64)))],slots:=[],nb:=1 } [(.exit 0,{ tmps:=[(6,.one (.v .bool))],slots:=[],nb:=1 }),(.ret,{ tmps:=[(4,.one (.v (.int .i64)))],slots:=[],nb:=1 })] (fun j x=>Z8c.l0 k j x.1 x.2.1 x.2.2.1 x.2.2.2.1 x.2.2.2.2.1 x.2.2.2.2.2) k
def Z8c.l0.ok (k:Nat):=(lA (Z8c.cok k):Zn Yb _ (.loop (cO (cO (cR (cL (cR (cR (cR (cR (cB Tryz.f109)))))))))) (Z8c.l0.s k))
theorem Z8c.ok (k:Nat):Zd Yb 109 (Z8c.con k):=fP (.two .auto (.two .auto (.two .auto (.two .auto (.two (.two .auto (.one (.sum (Z8c.l0.s k)))) .auto))))) (Z8c.cok k) Tryz.func109 (sC (Z8c.l0.ok k) sN)
def Zhk (a1:G52):Option (Bool):=some (a1.1==5)
def Zhk.con (k:Nat):Con:=Sig.con { ps:=[.val true T52 (ros T52)],rs:=[.val false [.v .bool]],ntmps:=6 } (fun x=>Zhk x)
theorem Zhk.ok (k:Nat):Zd Yb 210 (Zhk.con k):=fA (cX cN) Tryz.func210
def Zyd.l0:Nat→List G52→Int→Int→Option (Unit ⊕ Int)
 | 0,_,_,_=>none
 | j+1,a1,a2,a3=>bif decide (a3<a2) then Ya (at? a1 a3) fun v4=>Ya (Zhk v4) fun v5=>bif v5 then some (.inr a3) else Zyd.l0 j a1 a2 (Yc .i64 (a3+1)) else some (.inl ())
def Zyd (k:Nat) (a1:List G52):Option (Int):=Ya (Zyd.l0 k a1 ((a1.length):Int) 0) fun
  | .inl y2=>some (-1)
  | .inr y3=>some y3
def Zyd.con (k:Nat):Con:=Sig.con { ps:=[.val false (.sl T52) (ros (.sl T52)),.fn 210 []],rs:=[.val false [.v (.int .i64)]],ntmps:=19 } (fun x=>Zyd k x)
def Zyd.cok (k:Nat):=cX (cC (Zhk.ok k) cN)
def Zyd.l0.s (k:Nat):Summ:=lp 19 { tmps:=[(0,.one (.bor T52)),(1,.fn 210 []),(7,.one (.v (.int .i64))),(8,.one (.v (.int .i64)))],slots:=[],nb:=0 } [(.exit 0,{ tmps:=[],slots:=[],nb:=0 }),(.ret,{ tmps:=[(4,.one (.v (.int .i64)))],slots:=[],nb:=0 })] (fun j x=>Zyd.l0 j x.1 x.2.1 x.2.2) k
def Zyd.l0.ok (k:Nat):=(lA (Zyd.cok k):Zn Yb _ (.loop (cO (cO (cR (cL (cR (cB Yk))))))) (Zyd.l0.s k))
theorem Zyd.ok (k:Nat):Zd Yb 262 (Zyd.con k):=fP (.two .auto (.two (.two .auto (.one (.sum (Zyd.l0.s k)))) .auto)) (Zyd.cok k) Ym (sC (Zyd.l0.ok k) sN)
def Znf.l0:Nat→Int→Int→List G52→Option ((Int×List G52))
 | 0,_,_,_=>none
 | j+1,a1,a2,a3=>bif decide (a2<((a3.length):Int)) then Ya (at? a3 a2) fun v4=>Ya (at? a3 a2) fun v5=>Ya (Zhk v5) fun v6=>let e7:=Yc .i64 (a2+1);bif !v6 then Ya (at? a3 a1) fun v8=>Ya (at? a3 a1) fun v9=>Znf.l0 j (Yc .i64 (a1+1)) e7 (Yf a3 (Ye a1) v5) else Znf.l0 j a1 e7 a3 else some (a1,a3)
def Znf (k:Nat) (a1:List G52):Option (List G52):=Ya (Zyd k a1) fun v2=>bif v2==(-1) then some a1 else Ya (Znf.l0 k v2 (Yc .i64 (v2+1)) a1) fun y3=>Ya (Zhp y3.1 (y3.2.length)) fun v4=>Ya (Z3b (List.take (Ye y3.1) y3.2++Yj (List.length y3.2-Ye y3.1) (0,(0,(0,[])))) 0 y3.1) fun v5=>some v5
def Znf.con (k:Nat):Con:=Sig.con { ps:=[.mv 52 T52,.fn 210 []],rs:=[.val false [.v (.sl T52)]],ntmps:=42 } (fun x=>Znf k x)
def Znf.cok (k:Nat):=cXr false true (cC (Zhk.ok k) (cC (Zyd.ok k) cN))
def Znf.l0.s (k:Nat):Summ:=lp 42 { tmps:=[(0,.one (.own 1)),(1,.fn 210 []),(5,.one (.v (.int .i64))),(6,.one (.v (.int .i64)))],slots:=[(1,.arr false 52 T52)],nb:=2 } [(.exit 0,{ tmps:=[(0,.one (.own 2)),(5,.one (.v (.int .i64)))],slots:=[(2,.arr false 52 T52)],nb:=3 })] (fun j x=>Znf.l0 j x.1 x.2.1 x.2.2) k
def Znf.l0.ok (k:Nat):=(lA (Znf.cok k):Zn Yb _ (.loop (cO (cO (cR (cL (cR (cR (cR (cB Tryz.f208))))))))) (Znf.l0.s k))
theorem Znf.ok (k:Nat):Zd Yb 208 (Znf.con k):=fP (.two .auto (.two .auto (.two .auto (.two (.two .auto (.one (.sum (Znf.l0.s k)))) .auto)))) (Znf.cok k) Tryz.func208 (sC (Znf.l0.ok k) sN)
def Zti (a:List G52):Option (List G52):=Ya (Zfb 40 [] a) fun y=>some y
def Zti.sig:Sig:={ ps:=[.val false (.sl T52) (ros (.sl T52))],rs:=[.val false [.own 52 T52]],ntmps:=8 }
def Zti.con (k:Nat):Con:=Zti.sig.con (fun x=>Zti x)
theorem Zti.ok (k:Nat):Zd Yb 209 (Zti.con k):=
 Zbw (e:=52) (C:={ ti:=TAB,con:=Zck [] }) (s:=Zti.sig) (G:=fun x=>Zti x) (Zfr Z7q trivial) Tryz.func209 (by kernel_rfl) rfl (by kernel_rfl) (by kernel_rfl) (by kernel_rfl) rfl rfl rfl rfl rfl rfl (by kernel_rfl) (by kernel_rfl)
  (fun x=>⟨_,_,.inl rfl⟩) (fun x y h=>Eq.trans (b:=Zti x) (by kernel_rfl) h) (fun x y h hl=>by
   have e:x=([]:List G52):=hl T52 x (.inl (by kernel_rfl));subst e;exact Eq.trans (b:=Zti []) (by kernel_rfl) h)
def Zji (k:Nat) (a1:List G52):Option (List G52):=Ya (Zti a1) fun v2=>Ya (Znf k v2) fun v3=>some v3
def Zji.con (k:Nat):Con:=Sig.con { ps:=[.val false (.sl T52) (ros (.sl T52))],rs:=[.val false [.v (.sl T52)]],ntmps:=6 } (fun x=>Zji k x)
theorem Zji.ok (k:Nat):Zd Yb 117 (Zji.con k):=fA (cX (cC (Znf.ok k) (cC (Zti.ok k) cN))) Tryz.func117
def Zxr (a1:G52) (a2:Int):Option (Bool):=some (((a1.1==3)||(a1.1==4))&&(a1.2.2.1==a2))
def Zxr.con (k:Nat):Con:=Sig.con { ps:=[.val true T52 (ros T52),.val false (.int .i64) (ros (.int .i64))],rs:=[.val false [.v .bool]],ntmps:=19 } (fun x=>Zxr x.1 x.2)
theorem Zxr.ok (k:Nat):Zd Yb 203 (Zxr.con k):=fA (cX cN) Tryz.func203
def Zgo (a1:Int) (a2:Int) (a3:List G52) (a4:Int):Option (Bool):=bif a1 != a2 then Ya (at? a3 a1) fun v5=>Ya (Zxr v5 a4) fun v6=>some v6 else some false
def Zgo.con (k:Nat):Con:=Sig.con { ps:=[.val false (.int .i64) (ros (.int .i64)),.rptr (.int .i64),.rptr (.sl T52),.rptr (.int .i64)],rs:=[.val false [.v .bool]],ntmps:=17 } (fun x=>Zgo x.1 x.2.1 x.2.2.1 x.2.2.2)
theorem Zgo.ok (k:Nat):Zd Yb 202 (Zgo.con k):=fA (cX (cC (Zxr.ok k) cN)) Tryz.func202
def Zzd.l0:Nat→List Int→List G52→Int→Int→Int→Int→Option ((Int×Int) ⊕ (Int×Int×Int))
 | 0,_,_,_,_,_,_=>none
 | j+1,a1,a2,a3,a4,a5,a6=>bif decide (a4<a3) then Ya (at? a1 a4) fun v7=>Ya (Zgo v7 a5 a2 a6) fun v8=>bif v8 then some (.inr (a4,a5,a6)) else Zzd.l0 j a1 a2 a3 (Yc .i64 (a4+1)) a5 a6 else some (.inl (a5,a6))
def Zzd (k:Nat) (a1:List Int) (a2:Int) (a3:List G52) (a4:Int):Option (Int×Int×Int):=Ya (Zzd.l0 k a1 a3 ((a1.length):Int) 0 a2 a4) fun
  | .inl y5=>some ((-1),y5.1,y5.2)
  | .inr y6=>some (y6.1,y6.2.1,y6.2.2)
def Zzd.con (k:Nat):Con:=Sig.con { ps:=[.val false (.sl (.int .i64)) (ros (.sl (.int .i64))),.fn 202 [(3,(.int .i64),(Zpe (.int .i64))),(4000000,(.sl T52),[.ro]),(2,(.int .i64),(Zpe (.int .i64)))]],rs:=[.val false [.v (.int .i64)]],ntmps:=19 } (fun x=>Zzd k x.1 x.2.1 x.2.2.1 x.2.2.2)
def Zzd.cok (k:Nat):=cX (cC (Zgo.ok k) cN)
def Zzd.l0.s (k:Nat):Summ:=lp 19 { tmps:=[(0,.one (.bor (.int .i64))),(1,.fn 202 [.ptr 0 0,.rp (.sl T52),.ptr 1 0]),(7,.one (.v (.int .i64))),(8,.one (.v (.int .i64)))],slots:=[(0,.box 3 [.v (.int .i64)]),(1,.box 2 [.v (.int .i64)])],nb:=2 } [(.exit 0,{ tmps:=[],slots:=[(0,.box 3 [.v (.int .i64)]),(1,.box 2 [.v (.int .i64)])],nb:=2 }),(.ret,{ tmps:=[(4,.one (.v (.int .i64)))],slots:=[(0,.box 3 [.v (.int .i64)]),(1,.box 2 [.v (.int .i64)])],nb:=2 })] (fun j x=>Zzd.l0 j x.1 x.2.1 x.2.2.1 x.2.2.2.1 x.2.2.2.2.1 x.2.2.2.2.2) k
def Zzd.l0.ok (k:Nat):=(lA (Zzd.cok k):Zn Yb _ (.loop (cO (cO (cR (cL (cR (cB Yt))))))) (Zzd.l0.s k))
theorem Zzd.ok (k:Nat):Zd Yb 199 (Zzd.con k):=fP (.two .auto (.two (.two .auto (.one (.sum (Zzd.l0.s k)))) .auto)) (Zzd.cok k) Yx (sC (Zzd.l0.ok k) sN)
def Z0o (k:Nat) (a1:List Int) (a2:Int) (a3:List G52) (a4:Int):Option (Bool×Int×Int):=Ya (Zzd k a1 a2 a3 a4) fun v5=>some (decide (0≤v5.1),v5.2.1,v5.2.2)
def Z0o.con (k:Nat):Con:=Sig.con { ps:=[.val false (.sl (.int .i64)) (ros (.sl (.int .i64))),.fn 202 [(3,(.int .i64),(Zpe (.int .i64))),(4000000,(.sl T52),[.ro]),(2,(.int .i64),(Zpe (.int .i64)))]],rs:=[.val false [.v .bool]],ntmps:=9 } (fun x=>Z0o k x.1 x.2.1 x.2.2.1 x.2.2.2)
theorem Z0o.ok (k:Nat):Zd Yb 201 (Z0o.con k):=fA (cX (cC (Zzd.ok k) cN)) Tryz.func201
def Zfo (k:Nat) (a1:Int) (a2:List G52) (a3:List Int) (a4:List Int):Option (Bool×List Int):=Ya (at? a2 a1) fun v5=>bif Z9e v5.2.1 a3 then some (true,a3) else Ya (Z0o k a4 a1 a2 v5.2.1) fun v6=>some (!v6.1,a3)
def Zfo.con (k:Nat):Con:=Sig.con { ps:=[.val false (.int .i64) (ros (.int .i64)),.rptr (.sl T52),.ref 222 (.sl (.int .i64)) [.own 1000222],.rptr (.sl (.int .i64))],rs:=[.val false [.v .bool]],ntmps:=21 } (fun x=>Zfo k x.1 x.2.1 x.2.2.1 x.2.2.2)
theorem Zfo.ok (k:Nat):Zd Yb 200 (Zfo.con k):=fA (cX (cC (Z0o.ok k) cN)) Tryz.func200
def Znd.l0 (k:Nat):Nat→List Int→List Int→Int→Int→List G52→List Int→Option ((List G52×List Int) ⊕ (Int×List G52×List Int))
 | 0,_,_,_,_,_,_=>none
 | j+1,a1,a2,a3,a4,a5,a6=>bif decide (a4<a3) then Ya (at? a1 a4) fun v7=>Ya (Zfo k v7 a5 a6 a2) fun v8=>bif v8.1 then some (.inr (a4,a5,v8.2)) else Znd.l0 k j a1 a2 a3 (Yc .i64 (a4+1)) a5 v8.2 else some (.inl (a5,a6))
def Znd (k:Nat) (a1:List Int) (a2:List G52) (a3:List Int) (a4:List Int):Option (Int×List G52×List Int):=Ya (Znd.l0 k k a1 a4 ((a1.length):Int) 0 a2 a3) fun
  | .inl y5=>some ((-1),y5.1,y5.2)
  | .inr y6=>some (y6.1,y6.2.1,y6.2.2)
def Znd.con (k:Nat):Con:=Sig.con { ps:=[.val false (.sl (.int .i64)) (ros (.sl (.int .i64))),.fn 200 [(31,(.sl T52),(Zpe (.sl T52))),(222,(.sl (.int .i64)),[.own 1000222]),(4000000,(.sl (.int .i64)),[.ro])]],rs:=[.val false [.v (.int .i64)]],ntmps:=19 } (fun x=>Znd k x.1 x.2.1 x.2.2.1 x.2.2.2)
def Znd.cok (k:Nat):=cX (cC (Zfo.ok k) cN)
def Znd.l0.s (k:Nat):Summ:=lp 19 { tmps:=[(0,.one (.bor (.int .i64))),(1,.fn 200 [.ptr 0 0,.ptr 1 0,.rp (.sl (.int .i64))]),(7,.one (.v (.int .i64))),(8,.one (.v (.int .i64)))],slots:=[(0,.box 31 [.v (.sl T52)]),(1,.box 222 [.own 3]),(3,.arr false 1000222 (.int .i64))],nb:=4 } [(.exit 0,{ tmps:=[],slots:=[(0,.box 31 [.v (.sl T52)]),(1,.box 222 [.own 4]),(4,.arr false 1000222 (.int .i64))],nb:=5 }),(.ret,{ tmps:=[(4,.one (.v (.int .i64)))],slots:=[(0,.box 31 [.v (.sl T52)]),(1,.box 222 [.own 4]),(4,.arr false 1000222 (.int .i64))],nb:=5 })] (fun j x=>Znd.l0 k j x.1 x.2.1 x.2.2.1 x.2.2.2.1 x.2.2.2.2.1 x.2.2.2.2.2) k
def Znd.l0.ok (k:Nat):=(lA (Znd.cok k):Zn Yb _ (.loop (cO (cO (cR (cL (cR (cB Yt))))))) (Znd.l0.s k))
theorem Znd.ok (k:Nat):Zd Yb 199 (Znd.con k):=fP (.two .auto (.two (.two .auto (.one (.sum (Znd.l0.s k)))) .auto)) (Znd.cok k) Yx (sC (Znd.l0.ok k) sN)
def slices_Delete_int (l:List Int) (i j:Int):Option (List Int):=if 0≤i∧i≤j∧j≤(l.length:Int) then some (l.take i.toNat++l.drop j.toNat) else none
def slices_Delete_int.con (k:Nat):Con:={ ms:=[.mv,.val [.ro],.val [.ro]],f:=fun xs=>match xs with
 | [.mv e (.int .i64) l,.val false [.leaf (.int .i64 i)],.val false [.leaf (.int .i64 j)]]=>bif Nat.beq e 3 then .opt (List Int) (slices_Delete_int l i j) fun r=>⟨[.val false [.own e (.int .i64) r]],[]⟩ else .fail
 | _=>.fail }
theorem slices_Delete_int.drew (w:World) (q:Nat):(w.drewN q).heap=w.heap∧(w.drewN q).os=w.os∧(w.drewN q).tape=w.tape∧(w.drewN q).output=w.output:=⟨rfl,rfl,rfl,rfl⟩
theorem slices_Delete_int.ok (k:Nat):Zd Yb 204 (slices_Delete_int.con k):=by
 refine ⟨(Z70 Tryz.func204 (by kernel_rfl) (show Yu.body=some (cB Yu) by kernel_rfl)),?_⟩
 intro xs rr hrr w vs F L M hF hnd hgl hargs
 unfold slices_Delete_int.con at hrr
 dsimp only at hrr
 split at hrr
 ·rename_i e l i j
  cases he:Nat.beq e 3 with
  | false=>rw [he] at hrr;cases hrr
  | true=>
  rw [he] at hrr;have hm:Z0 e=false:=by rw [Nat.eq_of_beq_eq_true he];rfl
  replace hrr:(slices_Delete_int l i j).map (fun r=>(⟨[.val false [.own e (.int .i64) r]],[]⟩:RR))=some rr:=hrr;unfold slices_Delete_int at hrr;split at hrr
  ·rename_i hij
   obtain ⟨h0,h1,h2⟩:=hij;cases hrr
   match vs,hargs with
   | [v1,v2,v3],⟨_,_,_,_,hL,hM,⟨rfl,rfl,hrow⟩,_,_,_,_,hL2,hM2,⟨rfl,hv2,hn2⟩,_,_,_,_,hL3,hM3,⟨rfl,hv3,hn3⟩,hn4,hn5⟩=>
   have hv2:v2 = .int .i64 i:=hv2;have hv3:v3 = .int .i64 j:=hv3;subst hv2;subst hv3;subst hn2;subst hn3;subst hn4;subst hn5;subst hL3;subst hM3;subst hL2;subst hM2;subst hL;subst hM;obtain ⟨a,rfl⟩:∃a:Nat,i=(a:Int):=⟨i.toNat,by omega⟩;obtain ⟨b,rfl⟩:∃b:Nat,j=(b:Int):=⟨j.toNat,by omega⟩;rw [Yn,Yn];rcases hrow.slice hm with ⟨rfl,rfl⟩ | ⟨g,cap,cs,fr,rfl,hh,hun,hfz,hlc,hcs,hcells⟩
   ·have hb0:b=0:=by
     have:(([]:List Int).length:Int)=0:=rfl;have h2:(b:Int)≤(([]:List Int).length:Int):=h2;omega
    have ha0:a=0:=by omega
    subst hb0;subst ha0;refine (Tryz.slices_Delete_int_empty none 0 w).mono ?_;rintro e' w' ⟨rfl,rfl⟩;refine ⟨_,rfl,⟨rfl,rfl,rfl,Yh _,fun _ _ _=>rfl⟩,[],[.row (.slice none 0 0)],?_,Yp,rfl,rfl,Z2b.ok (.inl ⟨rfl,rfl⟩) hm,rfl⟩;intro c hc q hq;rw [Yg.1 hc] at hq;cases hq
   ·have hsz:(Ty.int IntKind.i64).sz=1:=rfl
    rw [hsz,Yi] at hcs;have hab:a≤b:=by omega
    have hbl:b≤l.length:=by omega
    obtain ⟨rfl,hcapm⟩:=hfz rfl
    have hcell:∀q,q<l.length→w.cell? ⟨g,0+q,none⟩=some (.int .i64 (l.getD q 0)):=by
     intro q hq;have h3:=hcells q l[q] (Yo hq);have h3:(cs.toList.drop (q*1)).take 1=[.int .i64 l[q]]:=h3;rw [Yi] at h3
     have h4:cs.toList[q]? = some (.int .i64 l[q]):=by
      have:=congrArg (fun z=>z[0]?) h3;simpa using this
     rw [cell_of_row w g (0+q) cs e (0,0) hh,Nat.zero_add,← Array.getElem?_toList,h4,List.getD_eq_getElem?_getD,Yo hq];rfl
    refine (Tryz.slices_Delete_int_cells g 0 l.length cap a b l w (Yh _) hlc (by unfold maxLen at hcapm;omega) hab hbl hcell (fun q hq=>by
     simp only [World.frozen?,hh];simp)).mono ?_
    rintro e' w' ⟨rfl,q,rfl⟩;rw [List.take_of_length_le (Yh l.length)];obtain ⟨d1,d2,d3,d4⟩:=slices_Delete_int.drew w q;generalize hvs:((l.take a++l.drop b++Yj (b-a) (0:Int)).map (Value.int .i64))=us;have hul:us.length=l.length:=by rw [← hvs];simp;omega
    obtain ⟨r1,r2,r3,r4⟩:=Zi4 g us 0 (w.drewN q);have hh':(w.drewN q).heap[g]? = some (.cells cs e (0,0)):=by rw [d1];exact hh
    have hblk:=Zqq g us 0 cs (w.drewN q) hh' (by omega);have hgl:g<w.heap.size:=(Array.getElem?_eq_some_iff.1 hh).1;have hres:(l.take a++l.drop b).length=l.length-(b-a):=by simp;omega
    refine ⟨_,rfl,⟨r1.trans d2,r2.trans d3,r3.trans d4,by rw [r4,d1];exact Yh _,fun x hx hn=>?_⟩,[],[.row (.slice (some ⟨g,0,none⟩) (l.length-(b-a)) cap)],?_,?_,rfl,rfl,Z2b.ok (.inr ⟨g,cap,_,(0,0),by rw [hres],hblk,.inl rfl,fun _=>⟨rfl,hcapm⟩,by rw [hres];omega,?_,?_⟩) hm,rfl⟩
    ·rw [Zzy g us 0 (w.drewN q) x (fun ex=>hn (by subst ex;exact Yg.2 rfl)),d1]
    ·intro c hc x hx
     rw [Yg.1 hc] at hx;cases hx;exact ⟨.inl (Yg.2 rfl),by rw [r4,d1];exact hgl⟩
    ·exact List.nodup_cons.2 ⟨(fun h=>nomatch h),Yp⟩
    ·rw [List.size_toArray,Zjq _ _ _ (by simp;omega),Array.length_toList,hcs,hsz,Yi]
    ·intro x y hx
     show ((overL cs.toList 0 us).toArray.toList.drop (x*1)).take 1=[.int .i64 y];have hxl:=(List.getElem?_eq_some_iff.1 hx).1
     have hus:us[x]? = some (.int .i64 y):=by
      rw [← hvs,List.getElem?_map,List.getElem?_append_left hxl,hx];rfl
     rw [Yi,List.toList_toArray];apply List.ext_getElem?;intro m;rw [List.getElem?_take,List.getElem?_drop,Z8k _ _ _ (by simp;omega)];cases m with
     | zero=>
      rw [Xc (by omega),Xd (by omega),Xc (by omega),Nat.add_zero,Nat.sub_zero,hus];rfl
     | succ m=>rw [Xd (by omega)];rfl
  ·cases hrr
 ·cases hrr
def Zib.l0:Nat→Int→Int→List Int→Option ((List Int))
 | 0,_,_,_=>none
 | j+1,a1,a2,a3=>bif decide (a2<a1) then Ya (at? a3 a2) fun v4=>Ya (at? a3 a2) fun v5=>Zib.l0 j a1 (Yc .i64 (a2+1)) (Yf a3 (Ye a2) a2) else some a3
def Zib.l1 (k:Nat):Nat→List G52→List Zve→List Int→List Int→Option ((List G52×List Zve×List Int×List Int))
 | 0,_,_,_,_=>none
 | j+1,a1,a2,a3,a4=>bif decide (0<((a3.length):Int)) then Ya (Znd k a3 a1 a4 a3) fun v5=>bif decide (v5.1<0) then Ya (at? a3 0) fun v6=>Ya (at? a3 0) fun v7=>let e8:=at? v5.2.1 v7;Ya (e8) fun v9=>Ya (Zfb 32 a2 [(1,(v7,(v9.2.1,((v5.2.2.length):Int))))]) fun v10=>Ya (e8) fun v11=>Zib.l1 k j v5.2.1 v10 a3 (Zbd v11.2.1 v5.2.2) else let e12:=at? a3 v5.1;Ya (e12) fun v13=>Ya (e12) fun v14=>Ya (at? v5.2.1 v14) fun v15=>Ya (Zfb 32 a2 [(2,(v14,(v15.2.1,0)))]) fun v16=>Ya (slices_Delete_int a3 v5.1 (Yc .i64 (v5.1+1))) fun v17=>Zib.l1 k j v5.2.1 v16 v17 v5.2.2 else some (a1,a2,a3,a4)
def Zib (k:Nat) (a1:List G52):Option (List Zve):=Ya (Zji k a1) fun v2=>Ya (Zdg 8 ((v2.length):Int) ((v2.length):Int) 0) fun v3=>Ya (Zib.l0 k ((v3.length):Int) 0 v3) fun y4=>Ya (Zib.l1 k k v2 [] y4 []) fun y5=>some y5.2.1
def Zib.con (k:Nat):Con:=Sig.con { ps:=[.val false (.sl T52) (ros (.sl T52))],rs:=[.val false [.own 139 Zkc]],ntmps:=76 } (fun x=>Zib k x)
def Zib.cok (k:Nat):=cX (cC (Zji.ok k) (cC (Znd.ok k) (cC (slices_Delete_int.ok k) cN)))
def Zib.l0.s (k:Nat):Summ:=lp 76 { tmps:=[(4,.one (.ptr 2 0)),(17,.one (.v (.int .i64))),(18,.one (.v (.int .i64)))],slots:=[(2,.box 221 [.own 3]),(3,.arr false 3 (.int .i64))],nb:=4 } [(.exit 0,{ tmps:=[],slots:=[(2,.box 221 [.own 4]),(4,.arr false 3 (.int .i64))],nb:=5 })] (fun j x=>Zib.l0 j x.1 x.2.1 x.2.2) k
def Zib.l0.ok (k:Nat):=(lA (Zib.cok k):Zn Yb _ (.loop (cO (cO (cR (cL (cR (cR (cR (cB Yq))))))))) (Zib.l0.s k))
def Zib.l1.s (k:Nat):Summ:=lp 76 { tmps:=[(3,.one (.ptr 0 0)),(4,.one (.ptr 2 0)),(6,.one (.ptr 6 0)),(7,.one (.own 7))],slots:=[(0,.box 31 [.v (.sl T52)]),(2,.box 221 [.own 8]),(6,.box 222 [.own 9]),(7,.arr false 139 Zkc),(8,.arr false 3 (.int .i64)),(9,.arr false 1000222 (.int .i64))],nb:=10 } [(.exit 2,{ tmps:=[(7,.one (.own 10))],slots:=[(0,.box 31 [.v (.sl T52)]),(2,.box 221 [.own 11]),(6,.box 222 [.own 12]),(10,.arr false 139 Zkc),(11,.arr false 3 (.int .i64)),(12,.arr false 1000222 (.int .i64))],nb:=13 })] (fun j x=>Zib.l1 k j x.1 x.2.1 x.2.2.1 x.2.2.2) k
def Zib.l1.ok (k:Nat):=(lA (Zib.cok k):Zn Yb _ (.loop (cO (cO (cL (cR (cR (cR (cR (cR (cR (cB Yq))))))))))) (Zib.l1.s k))
theorem Zib.ok (k:Nat):Zd Yb 110 (Zib.con k):=fP (.two .auto (.two .auto (.two .auto (.two (.two .auto (.one (.sum (Zib.l0.s k)))) (.two .auto (.two .auto (.two (.one (.sum (Zib.l1.s k))) .auto))))))) (Zib.cok k) Tryz.func110 (sC (Zib.l0.ok k) (sC (Zib.l1.ok k) sN))
def Zfe.l0:Nat→Int→List Zve→Int→Int→Option (Int)
 | 0,_,_,_,_=>none
 | j+1,a1,a2,a3,a4=>bif decide (a4<a3) then Ya (at? a2 a4) fun v5=>let e6:=Yc .i64 (a4+1);bif v5.1==1 then Zfe.l0 j (Yc .i64 (a1+1)) a2 a3 e6 else Zfe.l0 j a1 a2 a3 e6 else some a1
def Zfe (k:Nat) (a1:List Zve):Option (Int):=Ya (Zfe.l0 k 0 a1 ((a1.length):Int) 0) fun y2=>some y2
def Zfe.con (k:Nat):Con:=Sig.con { ps:=[.val false (.sl Zkc) (ros (.sl Zkc))],rs:=[.val false [.v (.int .i64)]],ntmps:=19 } (fun x=>Zfe k x)
def Zfe.cok (k:Nat):=cX cN
def Zfe.l0.s (k:Nat):Summ:=lp 19 { tmps:=[(3,.one (.v (.int .i64))),(6,.one (.bor Zkc)),(7,.one (.v (.int .i64))),(8,.one (.v (.int .i64)))],slots:=[],nb:=0 } [(.exit 0,{ tmps:=[(3,.one (.v (.int .i64)))],slots:=[],nb:=0 })] (fun j x=>Zfe.l0 j x.1 x.2.1 x.2.2.1 x.2.2.2) k
def Zfe.l0.ok (k:Nat):=(lA (Zfe.cok k):Zn Yb _ (.loop (cO (cO (cR (cL (cR (cR (cB Tryz.f111)))))))) (Zfe.l0.s k))
theorem Zfe.ok (k:Nat):Zd Yb 111 (Zfe.con k):=fP (.two .auto (.two .auto (.two (.two .auto (.one (.sum (Zfe.l0.s k)))) .auto))) (Zfe.cok k) Tryz.func111 (sC (Zfe.l0.ok k) sN)
def Zfk (a1:List Zve):Option (Int):=some ((a1.length):Int)
def Zfk.con (k:Nat):Con:=Sig.con { ps:=[.val false (.sl Zkc) (ros (.sl Zkc))],rs:=[.val false [.v (.int .i64)]],ntmps:=5 } (fun x=>Zfk x)
theorem Zfk.ok (k:Nat):Zd Yb 112 (Zfk.con k):=fA (cX cN) Tryz.func112
def Z0h (k:Nat) (a1:G28):Option (Bool):=Ya (Zsf k a1) fun v2=>bif !v2.2.2.2.2.2.2.2.2 then some false else Ya (Zdd k a1) fun v3=>Ya (Zek k v3) fun v4=>bif !v4 then some false else bif (v2.1==1)||(v2.1==2) then some true else Ya (Z1c k a1 (v2.1,(v2.2.1,(v2.2.2.1,(v2.2.2.2.1,(v2.2.2.2.2.1,(v2.2.2.2.2.2.1,(v2.2.2.2.2.2.2.1,v2.2.2.2.2.2.2.2.1)))))))) fun v5=>Ya (Z8c k v5 a1.1) fun v6=>bif v6 != 0 then some false else Ya (Zib k v5) fun v7=>Ya (Zfe k v7) fun v8=>bif decide (v8≤v2.2.2.2.1) then Ya (Zfk v7) fun v9=>some (decide (v2.2.2.2.2.1≤v9)) else some false
def Z0h.con (k:Nat):Con:=Sig.con { ps:=[.val true T28 (ros T28)],rs:=[.val false [.v .bool]],ntmps:=50 } (fun x=>Z0h k x)
theorem Z0h.ok (k:Nat):Zd Yb 56 (Z0h.con k):=fA (cXr true false (cC (Zek.ok k) (cC (Zdd.ok k) (cC (Zsf.ok k) (cC (Z1c.ok k) (cC (Z8c.ok k) (cC (Zib.ok k) (cC (Zfe.ok k) (cC (Zfk.ok k) cN))))))))) Tryz.func56
def Zgl (a1:G54):Option (Bool):=let e2:=(a1.2.2.2.2.1==0)&&((a1.2.2.2.2.2.1==0)&&((a1.2.2.2.2.2.2.1==0)&&(a1.2.2.2.2.2.2.2==[])));bif a1.1==1 then Ya (Zcb a1.2.1 1 20) fun v3=>Ya (Zcb a1.2.2.1 0 4) fun v4=>Ya (Zcb a1.1 1 11) fun v5=>some ((((v5&&v3)&&v4)&&(((a1.2.2.2.1.length):Int)==32))&&e2) else let e6:=a1.2.1==0;let e7:=a1.2.2.1==0;let e8:=a1.2.2.2.1==[];bif a1.1==2 then Ya (Zpc a1.2.2.2.2 8) fun v9=>Ya (Zcb a1.1 1 11) fun v10=>some ((((v10&&e6)&&e7)&&e8)&&v9) else bif a1.1==9 then Ya (Zcb a1.2.1 1 24) fun v11=>Ya (Zcb a1.1 1 11) fun v12=>some ((((v12&&v11)&&e7)&&e8)&&e2) else bif a1.1==7 then Ya (Zoh a1.2.1) fun v13=>Ya (Zcb a1.1 1 11) fun v14=>some ((((v14&&v13)&&e7)&&e8)&&e2) else Ya (Zcb a1.1 1 11) fun v15=>some ((((v15&&e6)&&e7)&&e8)&&e2)
def Zgl.con (k:Nat):Con:=Sig.con { ps:=[.val true T54 (ros T54)],rs:=[.val false [.v .bool]],ntmps:=64 } (fun x=>Zgl x)
theorem Zgl.ok (k:Nat):Zd Yb 60 (Zgl.con k):=fA (cX (cC (Zcb.ok k) (cC (Zpc.ok k) (cC (Zoh.ok k) cN)))) Tryz.func60
def Zcf.l0:Nat→Str→Int→Int→List Int→Option ((List Int))
 | 0,_,_,_,_=>none
 | j+1,a1,a2,a3,a4=>bif decide (a3<a2) then Ya (at? a4 a3) fun v5=>Ya (at? a4 a3) fun v6=>Ya (at? a1 a3) fun v7=>Ya (at? a4 a3) fun v8=>Ya (at? a4 a3) fun v9=>Zcf.l0 j a1 a2 (Yc .i64 (a3+1)) (Yf a4 (Ye a3) (intBits .xor .u8 v6 (v7.toNat:Int))) else some a4
def Zcf (k:Nat) (a1:Str) (a2:Str):Option (Str):=Ya (Zzu (a1.length) 1) fun v3=>Ya (Zcf.l0 k a2 (((Z9 a1).length):Int) 0 (Z9 a1)) fun y4=>some (Zhb y4)
def Zcf.con (k:Nat):Con:=Sig.con { ps:=[.val false .str (ros .str),.val false .str (ros .str)],rs:=[.val false [.v .str]],ntmps:=26 } (fun x=>Zcf k x.1 x.2)
def Zcf.cok (k:Nat):=cX cN
def Zcf.l0.s (k:Nat):Summ:=lp 26 { tmps:=[(1,.one (.v .str)),(5,.one (.own 1)),(10,.one (.v (.int .i64))),(11,.one (.v (.int .i64)))],slots:=[(1,.arr true 5 (.int .u8))],nb:=2 } [(.exit 0,{ tmps:=[(5,.one (.own 2))],slots:=[(2,.arr true 5 (.int .u8))],nb:=3 })] (fun j x=>Zcf.l0 j x.1 x.2.1 x.2.2.1 x.2.2.2) k
def Zcf.l0.ok (k:Nat):=(lA (Zcf.cok k):Zn Yb _ (.loop (cO (cO (cR (cL (cR (cR (cB Tryz.f264)))))))) (Zcf.l0.s k))
theorem Zcf.ok (k:Nat):Zd Yb 264 (Zcf.con k):=fP (.two .auto (.two .auto (.two (.two .auto (.one (.sum (Zcf.l0.s k)))) .auto))) (Zcf.cok k) Tryz.func264 (sC (Zcf.l0.ok k) sN)
def Zhl (k:Nat) (a1:G52) (a2:Str):Option (Str):=bif a1.1==1 then some ([0,0,0,0,0,0,0,0]:Str) else bif a1.1==2 then some a1.2.2.2 else bif a1.1==3 then some a2 else Ya (Zcf k a2 a1.2.2.2) fun v3=>some v3
def Zhl.con (k:Nat):Con:=Sig.con { ps:=[.val true T52 (ros T52),.val false .str (ros .str)],rs:=[.val false [.v .str]],ntmps:=20 } (fun x=>Zhl k x.1 x.2)
theorem Zhl.ok (k:Nat):Zd Yb 206 (Zhl.con k):=fA (cX (cC (Zcf.ok k) cN)) Tryz.func206
def Zne.l0 (k:Nat):Nat→List Str→List G52→Int→Int→List Str→Option ((List Str))
 | 0,_,_,_,_,_=>none
 | j+1,a1,a2,a3,a4,a5=>bif decide (a4<a3) then Ya (at? a2 a4) fun v6=>Ya (at? a1 v6.2.2.1) fun v7=>Ya (Zhl k v6 v7) fun v8=>let e9:=at? a5 v6.2.1;Ya (e9) fun v10=>Ya (e9) fun v11=>Zne.l0 k j a1 a2 a3 (Yc .i64 (a4+1)) (Yf a5 (Ye v6.2.1) v8) else some a5
def Zne (k:Nat) (a1:List Str) (a2:List G52):Option (List Str):=Ya (Zch a1) fun v3=>Ya (Zji k a2) fun v4=>Ya (Zne.l0 k k a1 v4 ((v4.length):Int) 0 v3) fun y5=>some y5
def Zne.con (k:Nat):Con:=Sig.con { ps:=[.val false (.sl .str) (ros (.sl .str)),.val false (.sl T52) (ros (.sl T52))],rs:=[.val false [.own 9 .str]],ntmps:=30 } (fun x=>Zne k x.1 x.2)
def Zne.cok (k:Nat):=cX (cC (Zji.ok k) (cC (Zch.ok k) (cC (Zhl.ok k) cN)))
def Zne.l0.s (k:Nat):Summ:=lp 30 { tmps:=[(0,.one (.bor .str)),(5,.one (.own 1)),(11,.one (.v (.sl T52))),(12,.one (.v (.int .i64))),(13,.one (.v (.int .i64)))],slots:=[(1,.arr false 9 .str)],nb:=2 } [(.exit 0,{ tmps:=[(5,.one (.own 2))],slots:=[(2,.arr false 9 .str)],nb:=3 })] (fun j x=>Zne.l0 k j x.1 x.2.1 x.2.2.1 x.2.2.2.1 x.2.2.2.2) k
def Zne.l0.ok (k:Nat):=(lA (Zne.cok k):Zn Yb _ (.loop (cO (cO (cR (cL (cR (cR (cB Tryz.f113)))))))) (Zne.l0.s k))
theorem Zne.ok (k:Nat):Zd Yb 113 (Zne.con k):=fP (.two .auto (.two .auto (.two (.two .auto (.one (.sum (Zne.l0.s k)))) .auto))) (Zne.cok k) Tryz.func113 (sC (Zne.l0.ok k) sN)
def Z4n (a1:Zve) (a2:Int):Option (Bool):=some ((a1.1==2)&&(a1.2.2.1==a2))
def Z4n.con (k:Nat):Con:=Sig.con { ps:=[.val true Zkc (ros Zkc),.rptr (.int .i64)],rs:=[.val false [.v .bool]],ntmps:=13 } (fun x=>Z4n x.1 x.2)
theorem Z4n.ok (k:Nat):Zd Yb 116 (Z4n.con k):=fA (cX cN) Tryz.func116
def Zvd.l0:Nat→List Zve→Int→Int→Int→Option (Int ⊕ (Int×Int))
 | 0,_,_,_,_=>none
 | j+1,a1,a2,a3,a4=>bif decide (a3<a2) then Ya (at? a1 a3) fun v5=>Ya (Z4n v5 a4) fun v6=>bif v6 then some (.inr (a3,a4)) else Zvd.l0 j a1 a2 (Yc .i64 (a3+1)) a4 else some (.inl a4)
def Zvd (k:Nat) (a1:List Zve) (a2:Int):Option (Int×Int):=Ya (Zvd.l0 k a1 ((a1.length):Int) 0 a2) fun
  | .inl y3=>some ((-1),y3)
  | .inr y4=>some (y4.1,y4.2)
def Zvd.con (k:Nat):Con:=Sig.con { ps:=[.val false (.sl Zkc) (ros (.sl Zkc)),.fn 116 [(2,(.int .i64),(Zpe (.int .i64)))]],rs:=[.val false [.v (.int .i64)]],ntmps:=19 } (fun x=>Zvd k x.1 x.2)
def Zvd.cok (k:Nat):=cX (cC (Z4n.ok k) cN)
def Zvd.l0.s (k:Nat):Summ:=lp 19 { tmps:=[(0,.one (.bor Zkc)),(1,.fn 116 [.ptr 0 0]),(7,.one (.v (.int .i64))),(8,.one (.v (.int .i64)))],slots:=[(0,.box 2 [.v (.int .i64)])],nb:=1 } [(.exit 0,{ tmps:=[],slots:=[(0,.box 2 [.v (.int .i64)])],nb:=1 }),(.ret,{ tmps:=[(4,.one (.v (.int .i64)))],slots:=[(0,.box 2 [.v (.int .i64)])],nb:=1 })] (fun j x=>Zvd.l0 j x.1 x.2.1 x.2.2.1 x.2.2.2) k
def Zvd.l0.ok (k:Nat):=(lA (Zvd.cok k):Zn Yb _ (.loop (cO (cO (cR (cL (cR (cB Tryz.f207))))))) (Zvd.l0.s k))
theorem Zvd.ok (k:Nat):Zd Yb 207 (Zvd.con k):=fP (.two .auto (.two (.two .auto (.one (.sum (Zvd.l0.s k)))) .auto)) (Zvd.cok k) Tryz.func207 (sC (Zvd.l0.ok k) sN)
def Zyo (k:Nat) (a1:List Zve) (a2:Int):Option (Bool×Int):=Ya (Zvd k a1 a2) fun v3=>some (decide (0≤v3.1),v3.2)
def Zyo.con (k:Nat):Con:=Sig.con { ps:=[.val false (.sl Zkc) (ros (.sl Zkc)),.fn 116 [(2,(.int .i64),(Zpe (.int .i64)))]],rs:=[.val false [.v .bool]],ntmps:=9 } (fun x=>Zyo k x.1 x.2)
theorem Zyo.ok (k:Nat):Zd Yb 115 (Zyo.con k):=fA (cX (cC (Zvd.ok k) cN)) Tryz.func115
def Z3n (k:Nat) (a1:Int) (a2:List Zve) (a3:G46):Option (Bool):=Ya (Z3b a2 0 a3.2.2.2.2.1) fun v4=>Ya (Zyo k v4 a1) fun v5=>some v5.1
def Z3n.con (k:Nat):Con:=Sig.con { ps:=[.val false (.int .i64) (ros (.int .i64)),.rptr (.sl Zkc),.rptr T46],rs:=[.val false [.v .bool]],ntmps:=11 } (fun x=>Z3n k x.1 x.2.1 x.2.2)
theorem Z3n.ok (k:Nat):Zd Yb 114 (Z3n.con k):=fA (cX (cC (Zyo.ok k) cN)) Tryz.func114
def Zmd.l0:Nat→Int→List Zve→Int→Int→Option (Unit ⊕ Int)
 | 0,_,_,_,_=>none
 | j+1,a1,a2,a3,a4=>bif decide (a4<a3) then Ya (at? a2 a4) fun v5=>bif (v5.1==1)&&(v5.2.2.1==a1) then some (.inr (v5.2.2.2)) else Zmd.l0 j a1 a2 a3 (Yc .i64 (a4+1)) else some (.inl ())
def Zmd (k:Nat) (a1:List Zve) (a2:Int) (a3:Int):Option (Int):=Ya (Z3b a1 0 a2) fun v4=>Ya (Zmd.l0 k a3 v4 ((v4.length):Int) 0) fun
  | .inl y5=>some (-1)
  | .inr y6=>some y6
def Zmd.con (k:Nat):Con:=Sig.con { ps:=[.val false (.sl Zkc) (ros (.sl Zkc)),.val false (.int .i64) (ros (.int .i64)),.val false (.int .i64) (ros (.int .i64))],rs:=[.val false [.v (.int .i64)]],ntmps:=29 } (fun x=>Zmd k x.1 x.2.1 x.2.2)
def Zmd.cok (k:Nat):=cX cN
def Zmd.l0.s (k:Nat):Summ:=lp 29 { tmps:=[(2,.one (.v (.int .i64))),(11,.one (.bor Zkc)),(12,.one (.v (.int .i64))),(13,.one (.v (.int .i64)))],slots:=[],nb:=0 } [(.exit 0,{ tmps:=[],slots:=[],nb:=0 }),(.ret,{ tmps:=[(6,.one (.v (.int .i64)))],slots:=[],nb:=0 })] (fun j x=>Zmd.l0 j x.1 x.2.1 x.2.2.1 x.2.2.2) k
def Zmd.l0.ok (k:Nat):=(lA (Zmd.cok k):Zn Yb _ (.loop (cO (cO (cR (cL (cR (cB Tryz.f211))))))) (Zmd.l0.s k))
theorem Zmd.ok (k:Nat):Zd Yb 211 (Zmd.con k):=fP (.two .auto (.two (.two .auto (.one (.sum (Zmd.l0.s k)))) .auto)) (Zmd.cok k) Tryz.func211 (sC (Zmd.l0.ok k) sN)
def Zmf.j0 (k:Nat) (a1:List Zve) (a2:Int) (a3:List Str) (a4:List Z2) (a5:Int) (a6:Int) (a7:Int) (a8:Int) (a9:Int) (a10:Str) (a11:List Int) (a12:List Int) (a13:Str) (a14:Int) (a15:Int) (a16:Int) (a17:Str):Option ((Str×Int×Int×Int×Str)):=bif (a14==3)||(a14==4) then Ya (Zlf k (a3,a4) (Yc .i64 (3+a16))) fun v18=>Ya (Zmd k a1 a9 a16) fun v19=>bif decide (0≤v19) then Ya (at? a12 v19) fun v20=>Ya (Zfi k (a2,(a3,a4)) v20) fun v21=>some (v21,a14,a15,a16,a17) else some (v18,a14,a15,a16,a17) else some (a13,a14,a15,a16,a17)
def Zmf (k:Nat) (a1:G28) (a2:G46) (a3:List Zve) (a4:G52):Option (Str):=Ya (Zmf.j0 k a3 a1.1 a1.2.1 a1.2.2 a2.1 a2.2.1 a2.2.2.1 a2.2.2.2.1 a2.2.2.2.2.1 a2.2.2.2.2.2.1 a2.2.2.2.2.2.2.1 a2.2.2.2.2.2.2.2 [] a4.1 a4.2.1 a4.2.2.1 a4.2.2.2) fun y5=>bif (y5.2.1==4)&&(((y5.1.length):Int) != 8) then some ([]) else Ya (Zhl k y5.2 y5.1) fun v6=>some v6
def Zmf.con (k:Nat):Con:=Sig.con { ps:=[.val true T28 (ros T28),.val true T46 (ros T46),.val false (.sl Zkc) (ros (.sl Zkc)),.val true T52 (ros T52)],rs:=[.val false [.v .str]],ntmps:=51 } (fun x=>Zmf k x.1 x.2.1 x.2.2.1 x.2.2.2)
def Zmf.cok (k:Nat):=cXr true false (cC (Zlf.ok k) (cC (Zfi.ok k) (cC (Zhl.ok k) (cC (Zmd.ok k) cN))))
def Zmf.j0.s (k:Nat):Summ:=lq 51 { tmps:=[(2,.one (.bor Zkc)),(4,.eptr [.v (.int .i64),.bor .str,.bor Zz]),(5,.eptr [.v (.int .i64),.v (.int .i64),.v (.int .i64),.v (.int .i64),.v (.int .i64),.v .str,.bor (.int .i64),.bor (.int .i64)]),(7,.one (.ptr 0 0)),(9,.one (.v .str))],slots:=[(0,.box 52 [.v (.int .i64),.v (.int .i64),.v (.int .i64),.v .str])],nb:=1 } [(.nrm,{ tmps:=[(9,.one (.v .str))],slots:=[(0,.box 52 [.v (.int .i64),.v (.int .i64),.v (.int .i64),.v .str])],nb:=1 })] (fun x=>Zmf.j0 k x.1 x.2.1 x.2.2.1 x.2.2.2.1 x.2.2.2.2.1 x.2.2.2.2.2.1 x.2.2.2.2.2.2.1 x.2.2.2.2.2.2.2.1 x.2.2.2.2.2.2.2.2.1 x.2.2.2.2.2.2.2.2.2.1 x.2.2.2.2.2.2.2.2.2.2.1 x.2.2.2.2.2.2.2.2.2.2.2.1 x.2.2.2.2.2.2.2.2.2.2.2.2.1 x.2.2.2.2.2.2.2.2.2.2.2.2.2.1 x.2.2.2.2.2.2.2.2.2.2.2.2.2.2.1 x.2.2.2.2.2.2.2.2.2.2.2.2.2.2.2.1 x.2.2.2.2.2.2.2.2.2.2.2.2.2.2.2.2)
def Zmf.j0.ok (k:Nat):=(jA (Zmf.cok k):Zn Yb _ (cL (cR (cR (cB Tryz.f118)))) (Zmf.j0.s k))
theorem Zmf.ok (k:Nat):Zd Yb 118 (Zmf.con k):=fP (.two .auto (.two .auto (.two (.sum (Zmf.j0.s k)) .auto))) (Zmf.cok k) Tryz.func118 (sC (Zmf.j0.ok k) sN)
def Zqd.l0 (k:Nat):Nat→Int→List Str→List Z2→List G52→Int→Int→Int→Int→Int→Int→Int→Str→List Str→List Int→List Int→List Zve→Option ((Int×Int×Int×Int×Int×Str×List Str×List Int×List Int×List Zve))
 | 0,_,_,_,_,_,_,_,_,_,_,_,_,_,_,_,_=>none
 | j+1,a1,a2,a3,a4,a5,a6,a7,a8,a9,a10,a11,a12,a13,a14,a15,a16=>bif decide (a6<a5) then Ya (at? a4 a6) fun v17=>let e18:=(a7,(a8,(a9,(a10,(a11,(a12,(a14,a15)))))));Ya (Z3n k v17.2.1 a16 e18) fun v19=>let e20:=Yc .i64 (a6+1);bif !v19 then Ya (Zmf k (a1,(a2,a3)) e18 a16 v17) fun v21=>let e22:=at? a13 v17.2.1;Ya (e22) fun v23=>Ya (e22) fun v24=>Zqd.l0 k j a1 a2 a3 a4 a5 e20 a7 a8 a9 a10 a11 a12 (Yf a13 (Ye v17.2.1) v21) a14 a15 a16 else Zqd.l0 k j a1 a2 a3 a4 a5 e20 a7 a8 a9 a10 a11 a12 a13 a14 a15 a16 else some (a7,a8,a9,a10,a11,a12,a13,a14,a15,a16)
def Zqd (k:Nat) (a1:G28):Option (List Str):=Ya (Zsf k a1) fun v2=>Ya (Zdd k a1) fun v3=>Ya (Z1c k a1 (v2.1,(v2.2.1,(v2.2.2.1,(v2.2.2.2.1,(v2.2.2.2.2.1,(v2.2.2.2.2.2.1,(v2.2.2.2.2.2.2.1,v2.2.2.2.2.2.2.2.1)))))))) fun v4=>bif v2.1==4 then Ya (Zne k v3 v4) fun v5=>some v5 else bif v2.1==5 then Ya (Zib k v4) fun v6=>Ya (Zji k v4) fun v7=>Ya (Zqd.l0 k k a1.1 a1.2.1 a1.2.2 v7 ((v7.length):Int) 0 v2.1 v2.2.1 v2.2.2.1 v2.2.2.2.1 v2.2.2.2.2.1 v2.2.2.2.2.2.1 v3 v2.2.2.2.2.2.2.1 v2.2.2.2.2.2.2.2.1 v6) fun y8=>some y8.2.2.2.2.2.2.1 else some v3
def Zqd.con (k:Nat):Con:=Sig.con { ps:=[.val true T28 (ros T28)],rs:=[.val false [.own 9 .str]],ntmps:=56 } (fun x=>Zqd k x)
def Zqd.cok (k:Nat):=cXr true false (cC (Zdd.ok k) (cC (Zsf.ok k) (cC (Z1c.ok k) (cC (Zib.ok k) (cC (Zne.ok k) (cC (Z3n.ok k) (cC (Zji.ok k) (cC (Zmf.ok k) cN))))))))
def Zqd.l0.s (k:Nat):Summ:=lp 56 { tmps:=[(1,.eptr [.v (.int .i64),.bor .str,.bor Zz]),(3,.one (.ptr 2 0)),(5,.one (.own 7)),(7,.one (.ptr 6 0)),(8,.fn 114 [.ptr 6 0,.ptr 2 0]),(34,.one (.v (.sl T52))),(35,.one (.v (.int .i64))),(36,.one (.v (.int .i64)))],slots:=[(2,.box 46 [.v (.int .i64),.v (.int .i64),.v (.int .i64),.v (.int .i64),.v (.int .i64),.v .str,.own 8,.own 9]),(6,.box 98 [.own 10]),(7,.arr false 9 .str),(8,.arr false 2 (.int .i64)),(9,.arr false 2 (.int .i64)),(10,.arr false 139 Zkc)],nb:=11 } [(.exit 1,{ tmps:=[(5,.one (.own 11))],slots:=[(2,.box 46 [.v (.int .i64),.v (.int .i64),.v (.int .i64),.v (.int .i64),.v (.int .i64),.v .str,.own 12,.own 13]),(6,.box 98 [.own 14]),(11,.arr false 9 .str),(12,.arr false 2 (.int .i64)),(13,.arr false 2 (.int .i64)),(14,.arr false 139 Zkc)],nb:=15 })] (fun j x=>Zqd.l0 k j x.1 x.2.1 x.2.2.1 x.2.2.2.1 x.2.2.2.2.1 x.2.2.2.2.2.1 x.2.2.2.2.2.2.1 x.2.2.2.2.2.2.2.1 x.2.2.2.2.2.2.2.2.1 x.2.2.2.2.2.2.2.2.2.1 x.2.2.2.2.2.2.2.2.2.2.1 x.2.2.2.2.2.2.2.2.2.2.2.1 x.2.2.2.2.2.2.2.2.2.2.2.2.1 x.2.2.2.2.2.2.2.2.2.2.2.2.2.1 x.2.2.2.2.2.2.2.2.2.2.2.2.2.2.1 x.2.2.2.2.2.2.2.2.2.2.2.2.2.2.2) k
def Zqd.l0.ok (k:Nat):=(lA (Zqd.cok k):Zn Yb _ (.loop (cO (cO (cR (cR (cR (cL (cR (cR (cR (cO (cR (cL (cR (cR (cR (cB Tryz.f57))))))))))))))))) (Zqd.l0.s k))
theorem Zqd.ok (k:Nat):Zd Yb 57 (Zqd.con k):=fP (.two .auto (.two .auto (.two .auto (.two (.two .auto (.one (.two .auto (.two .auto (.two .auto (.two (.two .auto (.two .auto (.two .auto (.one (.sum (Zqd.l0.s k)))))) .auto)))))) .auto)))) (Zqd.cok k) Tryz.func57 (sC (Zqd.l0.ok k) sN)
def Zde (k:Nat) (a1:G28) (a2:G46):Option (List Zkg):=Ya (Zgk k a2) fun v3=>Ya (Zil k a1.2 v3) fun v4=>some v4
def Zde.con (k:Nat):Con:=Sig.con { ps:=[.val true T28 (ros T28),.val true T46 (ros T46)],rs:=[.val false [.own 151 Zke]],ntmps:=10 } (fun x=>Zde k x.1 x.2)
theorem Zde.ok (k:Nat):Zd Yb 131 (Zde.con k):=fA (cXr true false (cC (Zil.ok k) (cC (Zgk.ok k) cN))) Tryz.func131
def Zui (a:List Int):Option (List Int):=Ya (Zfb 8 [] a) fun y=>some y
def Zui.sig:Sig:={ ps:=[.val false (.sl (.int .i64)) (ros (.sl (.int .i64)))],rs:=[.val false [.own 2 (.int .i64)]],ntmps:=8 }
def Zui.con (k:Nat):Con:=Zui.sig.con (fun x=>Zui x)
theorem Zui.ok (k:Nat):Zd Yb 221 (Zui.con k):=
 Zbw (e:=2) (C:={ ti:=TAB,con:=Zck [] }) (s:=Zui.sig) (G:=fun x=>Zui x) (Zfr Z7q trivial) Tryz.func221 (by kernel_rfl) rfl (by kernel_rfl) (by kernel_rfl) (by kernel_rfl) rfl rfl rfl rfl rfl rfl (by kernel_rfl) (by kernel_rfl)
  (fun x=>⟨_,_,.inl rfl⟩) (fun x y h=>Eq.trans (b:=Zui x) (by kernel_rfl) h) (fun x y h hl=>by
   have e:x=([]:List Int):=hl (.int .i64) x (.inl (by kernel_rfl));subst e;exact Eq.trans (b:=Zui []) (by kernel_rfl) h)
def Zii (a1:G46):Option (Int×Int×Int×Int×Int×Str×List Int×List Int):=Ya (Zui a1.2.2.2.2.2.2.1) fun v2=>some (1,0,0,0,0,[],v2,[])
def Zii.con (k:Nat):Con:=Sig.con { ps:=[.val true T46 (ros T46)],rs:=[.val true [.v (.int .i64),.v (.int .i64),.v (.int .i64),.v (.int .i64),.v (.int .i64),.v .str,.own 2 (.int .i64),.own 2 (.int .i64)]],ntmps:=7 } (fun x=>Zii x)
theorem Zii.ok (k:Nat):Zd Yb 132 (Zii.con k):=fA (cXr true false (cC (Zui.ok k) cN)) Tryz.func132
def Zee.l0:Nat→Int→List G52→Int→Int→Option (Int)
 | 0,_,_,_,_=>none
 | j+1,a1,a2,a3,a4=>bif decide (a4<a3) then Ya (at? a2 a4) fun v5=>let e6:=Yc .i64 (a4+1);bif v5.1==5 then Zee.l0 j e6 a2 a3 e6 else Zee.l0 j a1 a2 a3 e6 else some a1
def Zee (k:Nat) (a1:List G52):Option (Int):=Ya (Zee.l0 k 0 a1 ((a1.length):Int) 0) fun y2=>some y2
def Zee.con (k:Nat):Con:=Sig.con { ps:=[.val false (.sl T52) (ros (.sl T52))],rs:=[.val false [.v (.int .i64)]],ntmps:=20 } (fun x=>Zee k x)
def Zee.cok (k:Nat):=cX cN
def Zee.l0.s (k:Nat):Summ:=lp 20 { tmps:=[(3,.one (.v (.int .i64))),(6,.one (.bor T52)),(7,.one (.v (.int .i64))),(8,.one (.v (.int .i64)))],slots:=[],nb:=0 } [(.exit 0,{ tmps:=[(3,.one (.v (.int .i64)))],slots:=[],nb:=0 })] (fun j x=>Zee.l0 j x.1 x.2.1 x.2.2.1 x.2.2.2) k
def Zee.l0.ok (k:Nat):=(lA (Zee.cok k):Zn Yb _ (.loop (cO (cO (cR (cL (cR (cR (cB Tryz.f136)))))))) (Zee.l0.s k))
theorem Zee.ok (k:Nat):Zd Yb 136 (Zee.con k):=fP (.two .auto (.two .auto (.two (.two .auto (.one (.sum (Zee.l0.s k)))) .auto))) (Zee.cok k) Tryz.func136 (sC (Zee.l0.ok k) sN)
def Zeo (k:Nat) (a1:Str) (a2:Int):Option (Bool×Int×Str):=Ya (Zuj k a1) fun v3=>Ya (Z9b k (v3.1,(0,false))) fun v4=>Ya (Z9b k v4.2) fun v5=>Ya (Zbg k v5.2) fun v6=>bif (((v3.2 != 0)||v6.2.2.2)||(v6.2.2.1 != ((v3.1.length):Int)))||(v4.1 != a2) then some (true,0,[]) else Ya (Zoh a2) fun v7=>bif !v7 then some (true,0,[]) else Ya (Zcb v5.1 0 39) fun v8=>bif (!v8)||(((v6.1.length):Int) != 8) then some (true,0,[]) else some (false,v5.1,v6.1)
def Zeo.con (k:Nat):Con:=Sig.con { ps:=[.val false .str (ros .str),.val false (.int .i64) (ros (.int .i64))],rs:=[.val true [.v .bool,.v (.int .i64),.v .str]],ntmps:=66 } (fun x=>Zeo k x.1 x.2)
theorem Zeo.ok (k:Nat):Zd Yb 146 (Zeo.con k):=fA (cX (cC (Zcb.ok k) (cC (Zoh.ok k) (cC (Z9b.ok k) (cC (Zbg.ok k) (cC (Zuj.ok k) cN)))))) Tryz.func146
def Z6c.l0 (k:Nat):Nat→List Int→Int→Int→Int→List Str→List Z2→List Zkg→Option ((Int×List Str×List Z2×List Zkg))
 | 0,_,_,_,_,_,_,_=>none
 | j+1,a1,a2,a3,a4,a5,a6,a7=>bif decide (a3<a2) then Ya (at? a1 a3) fun v8=>let e9:=(a4,(a5,a6));Ya (Zfi k e9 v8) fun v10=>let e11:=Yc .i64 (a3+1);bif !(v10==[]) then Ya (Z2g e9 v8) fun v12=>Ya (Zfb 32 a7 ([(false,(v12,[]))])) fun v13=>Z6c.l0 k j a1 a2 e11 a4 a5 a6 v13 else Z6c.l0 k j a1 a2 e11 a4 a5 a6 a7 else some (a4,a5,a6,a7)
def Z6c (k:Nat) (a1:G28) (a2:G46):Option (List Zkg):=let e3:=(true,(0,[]));bif a2.1==2 then Ya (Z1c k a1 a2) fun v4=>Ya (Zee k v4) fun v5=>Ya (Z3b a2.2.2.2.2.2.2.2 (Yc .i64 (a2.2.2.2.1+v5)) ((a2.2.2.2.2.2.2.2.length):Int)) fun v6=>Ya (Z6c.l0 k k v6 ((v6.length):Int) 0 a1.1 a1.2.1 a1.2.2 []) fun y7=>bif decide (0<((y7.2.2.2.length):Int)) then Ya (Zfb 32 y7.2.2.2 [e3]) fun v8=>some v8 else some y7.2.2.2 else bif a2.1==3 then Ya (Zde k a1 (4,(2,a2.2.2))) fun v9=>some v9 else bif a2.1==4 then bif a2.2.1==0 then Ya (Zii a2) fun v10=>Ya (Zde k a1 v10) fun v11=>some v11 else Ya (Zde k a1 (a2.1,((Yc .i64 (a2.2.1-1)),a2.2.2))) fun v12=>some v12 else bif a2.1==5 then Ya (Zlf k a1.2 2) fun v13=>Ya (Zeo k v13 a2.2.2.2.2.1) fun v14=>bif v14.1||(a2.2.2.2.2.1==40) then some ([]) else Ya (Zcl a1.2 v14.2.1) fun v15=>bif !v15 then some ([]) else Ya (Zde k a1 (a2.1,(a2.2.1,(a2.2.2.1,(a2.2.2.2.1,((Yc .i64 (a2.2.2.2.2.1+1)),a2.2.2.2.2.2)))))) fun v16=>Ya (Zfb 32 [v14,e3] v16) fun v17=>some v17 else some ([])
def Z6c.con (k:Nat):Con:=Sig.conR { ps:=[.val true T28 (Zpe T28),.val true T46 (ros T46)],rs:=[.val false [.own 151 Zke]],ntmps:=105 } (fun x=>Z6c k x.1 x.2)
def Z6c.cok (k:Nat):=cX (cC (Z1c.ok k) (cC (Zlf.ok k) (cC (Zde.ok k) (cC (Zii.ok k) (cC (Zee.ok k) (cC (Zfi.ok k) (cC (Z2g.ok k) (cC (Zeo.ok k) (cC (Zcl.ok k) cN)))))))))
def Z6c.l0.s (k:Nat):Summ:=lp 105 { tmps:=[(2,.one (.ptr 0 0)),(5,.one (.own 3)),(22,.one (.bor (.int .i64))),(23,.one (.v (.int .i64))),(24,.one (.v (.int .i64)))],slots:=[(0,.box 28 [.v (.int .i64),.v (.sl .str),.v (.sl Zz)]),(3,.arr false 151 Zke)],nb:=4 } [(.exit 1,{ tmps:=[(5,.one (.own 4))],slots:=[(0,.box 28 [.v (.int .i64),.v (.sl .str),.v (.sl Zz)]),(4,.arr false 151 Zke)],nb:=5 })] (fun j x=>Z6c.l0 k j x.1 x.2.1 x.2.2.1 x.2.2.2.1 x.2.2.2.2.1 x.2.2.2.2.2.1 x.2.2.2.2.2.2) k
def Z6c.l0.ok (k:Nat):=(lA (Z6c.cok k):Zn Yb _ (.loop (cO (cO (cR (cL (cR (cL (cR (cO (cR (cL (cR (cB Tryz.f64))))))))))))) (Z6c.l0.s k))
theorem Z6c.ok (k:Nat):Zd Yb 64 (Z6c.con k):=Zt0 (fP (.two .auto (.two (.two .auto (.one (.two .auto (.two (.two .auto (.two (.two .auto (.one (.sum (Z6c.l0.s k)))) .auto)) .auto)))) .auto)) (Z6c.cok k) Tryz.func64 (sC (Z6c.l0.ok k) sN))
def Zfl (k:Nat) (a1:List Int) (a2:List Int):Option (List Int):=Ya (Znc k a1) fun v3=>Ya (Znc k a2) fun v4=>Ya (Zed k (intBits .andNot .i64 16777215 (intBits .or .i64 v3 v4))) fun v5=>some v5
def Zfl.con (k:Nat):Con:=Sig.con { ps:=[.val false (.sl (.int .i64)) (ros (.sl (.int .i64))),.val false (.sl (.int .i64)) (ros (.sl (.int .i64)))],rs:=[.val false [.own 2 (.int .i64)]],ntmps:=12 } (fun x=>Zfl k x.1 x.2)
theorem Zfl.ok (k:Nat):Zd Yb 66 (Zfl.con k):=fA (cX (cC (Zed.ok k) (cC (Znc.ok k) cN))) Tryz.func66
def Zme.l0:Nat→List Int→Int→Int→List Z1s→Option ((List Z1s))
 | 0,_,_,_,_=>none
 | j+1,a1,a2,a3,a4=>bif decide (a3<a2) then Ya (at? a1 a3) fun v5=>let e6:=Yc .i64 (((a4.length):Int)-1);let e7:=Yc .i64 (a3+1);let e8:=Zfb 16 a4 [(v5,1)];bif decide (0≤e6) then let e9:=at? a4 e6;Ya (e9) fun v10=>Ya (e9) fun v11=>Ya (e9) fun v12=>Ya (e9) fun v13=>bif (Yc .i64 (v11.1+v13.2))==v5 then Ya (e9) fun v14=>Ya (e9) fun v15=>Ya (e9) fun v16=>Ya (e9) fun v17=>Zme.l0 j a1 a2 e7 (Yf a4 (Ye e6) (v17.1,(Yc .i64 (v15.2+1)))) else Ya (e8) fun v18=>Zme.l0 j a1 a2 e7 v18 else Ya (e8) fun v19=>Zme.l0 j a1 a2 e7 v19 else some a4
def Zme (k:Nat) (a1:List Int):Option (List Z1s):=Ya (Zme.l0 k a1 ((a1.length):Int) 0 []) fun y2=>some y2
def Zme.con (k:Nat):Con:=Sig.con { ps:=[.val false (.sl (.int .i64)) (ros (.sl (.int .i64)))],rs:=[.val false [.own 243 Zin]],ntmps:=48 } (fun x=>Zme k x)
def Zme.cok (k:Nat):=cX cN
def Zme.l0.s (k:Nat):Summ:=lp 48 { tmps:=[(3,.one (.own 0)),(7,.one (.bor (.int .i64))),(8,.one (.v (.int .i64))),(9,.one (.v (.int .i64)))],slots:=[(0,.arr false 243 Zin)],nb:=1 } [(.exit 0,{ tmps:=[(3,.one (.own 1))],slots:=[(1,.arr false 243 Zin)],nb:=2 })] (fun j x=>Zme.l0 j x.1 x.2.1 x.2.2.1 x.2.2.2) k
def Zme.l0.ok (k:Nat):=(lA (Zme.cok k):Zn Yb _ (.loop (cO (cO (cR (cL (cR (cR (cB Tryz.f223)))))))) (Zme.l0.s k))
theorem Zme.ok (k:Nat):Zd Yb 223 (Zme.con k):=fP (.two .auto (.two .auto (.two (.two .auto (.one (.sum (Zme.l0.s k)))) .auto))) (Zme.cok k) Tryz.func223 (sC (Zme.l0.ok k) sN)
def Zub.l0:Nat→Int→Int→Int→Int→List Int→Option ((Int×Int×List Int))
 | 0,_,_,_,_,_=>none
 | j+1,a1,a2,a3,a4,a5=>bif decide (a2<a1) then Ya (Zfb 8 a5 [(Yc .i64 (a3+a2))]) fun v6=>Zub.l0 j a1 (Yc .i64 (a2+1)) a3 a4 v6 else some (a3,a4,a5)
def Zub.l1 (k:Nat):Nat→Int→Int→Int→List Z1s→Option (Unit ⊕ (Bool×List Int))
 | 0,_,_,_,_=>none
 | j+1,a1,a2,a3,a4=>bif decide (a3<a2) then Ya (at? a4 a3) fun v5=>Ya (at? a4 a3) fun v6=>bif decide (a1≤v6.2) then Ya (Zub.l0 k a1 0 v6.1 v6.2 []) fun y7=>some (.inr (true,y7.2.2)) else Zub.l1 k j a1 a2 (Yc .i64 (a3+1)) a4 else some (.inl ())
def Zub (k:Nat) (a1:List Int) (a2:List Int) (a3:Int):Option (List Int×Bool):=Ya (Zfl k a1 a2) fun v4=>Ya (Z9i v4) fun v5=>bif decide (v5<a3) then some ([],false) else Ya (Zme k v4) fun v6=>Ya (Zub.l1 k k a3 ((v6.length):Int) 0 v6) fun
  | .inl y7=>Ya (Z3b v4 0 a3) fun v8=>some (v8,true)
  | .inr y9=>some (y9.2,y9.1)
def Zub.con (k:Nat):Con:=Sig.con { ps:=[.val false (.sl (.int .i64)) (ros (.sl (.int .i64))),.val false (.sl (.int .i64)) (ros (.sl (.int .i64))),.val false (.int .i64) (ros (.int .i64))],rs:=[.val false [.v (.sl (.int .i64))],.val false [.v .bool]],ntmps:=48 } (fun x=>Zub k x.1 x.2.1 x.2.2)
def Zub.cok (k:Nat):=cX (cC (Zfl.ok k) (cC (Z9i.ok k) (cC (Zme.ok k) cN)))
def Zub.l0.s (k:Nat):Summ:=lp 48 { tmps:=[(10,.one (.ptr 3 0)),(11,.one (.own 4)),(31,.one (.v (.int .i64))),(32,.one (.v (.int .i64)))],slots:=[(3,.box 243 [.v (.int .i64),.v (.int .i64)]),(4,.arr false 2 (.int .i64))],nb:=5 } [(.exit 2,{ tmps:=[(11,.one (.own 5))],slots:=[(3,.box 243 [.v (.int .i64),.v (.int .i64)]),(5,.arr false 2 (.int .i64))],nb:=6 })] (fun j x=>Zub.l0 j x.1 x.2.1 x.2.2.1 x.2.2.2.1 x.2.2.2.2) k
def Zub.l0.ok (k:Nat):=(lA (Zub.cok k):Zn Yb _ (.loop (cO (cO (cR (cL (cR (cL (cR (cR (cO (cL (cR (cR (cO (cO (cR (cL (cR (cR (cR (cB Ys))))))))))))))))))))) (Zub.l0.s k))
def Zub.l1.s (k:Nat):Summ:=lp 48 { tmps:=[(2,.one (.v (.int .i64))),(21,.one (.own 2)),(22,.one (.v (.int .i64))),(23,.one (.v (.int .i64)))],slots:=[(2,.arr false 243 Zin)],nb:=3 } [(.exit 0,{ tmps:=[],slots:=[],nb:=3 }),(.ret,{ tmps:=[(6,.one (.own 3)),(7,.one (.v .bool))],slots:=[(3,.arr false 2 (.int .i64))],nb:=4 })] (fun j x=>Zub.l1 k j x.1 x.2.1 x.2.2.1 x.2.2.2) k
def Zub.l1.ok (k:Nat):=(lP (.two .auto (.two .auto (.two (.one (.two .auto (.two .auto (.two (.two .auto (.two (.two .auto (.one (.sum (Zub.l0.s k)))) .auto)) .auto)))) .auto))) (Zub.cok k) (sC (Zub.l0.ok k) sN):Zn Yb _ (.loop (cO (cO (cR (cL (cR (cR (cR (cB Ys))))))))) (Zub.l1.s k))
theorem Zub.ok (k:Nat):Zd Yb 138 (Zub.con k):=fP (.two .auto (.two .auto (.two .auto (.two (.two .auto (.one (.sum (Zub.l1.s k)))) .auto)))) (Zub.cok k) Tryz.func138 (sC (Zub.l1.ok k) sN)
def Zle.l0:Nat→Int→List Str→List Z2→List Int→Int→Int→List Zkg→Option ((List Zkg))
 | 0,_,_,_,_,_,_,_=>none
 | j+1,a1,a2,a3,a4,a5,a6,a7=>bif decide (a6<a5) then Ya (at? a4 a6) fun v8=>Ya (Z2g (a1,(a2,a3)) v8) fun v9=>Ya (Zfb 32 a7 ([(false,(v9,[]))])) fun v10=>Zle.l0 j a1 a2 a3 a4 a5 (Yc .i64 (a6+1)) v10 else some a7
def Zle (k:Nat) (a1:G28) (a2:G46) (a3:G54):Option (List Zkg×Str×List Int×Int):=bif a2.1 != 1 then some ([],[],[],10) else Ya (Zub k a2.2.2.2.2.2.2.1 [] (Yc .i64 (a3.2.1+a3.2.2.1))) fun v4=>bif !v4.2 then some ([],[],[],11) else Ya (Zle.l0 k a1.1 a1.2.1 a1.2.2 v4.1 ((v4.1.length):Int) 0 []) fun y5=>Ya (Zfb 32 y5 ([(true,(0,[]))])) fun v6=>Ya (Zde k a1 (2,(0,(a3.2.1,(a3.2.2.1,(0,(a3.2.2.2.1,(a2.2.2.2.2.2.2.1,v4.1)))))))) fun v7=>Ya (Zfb 32 v6 v7) fun v8=>some (v8,[],[],0)
def Zle.con (k:Nat):Con:=Sig.con { ps:=[.val true T28 (ros T28),.val true T46 (ros T46),.val true T54 (ros T54)],rs:=[.val true [.own 151 Zke,.v .str,.own 2 (.int .i64),.v (.int .i64)]],ntmps:=63 } (fun x=>Zle k x.1 x.2.1 x.2.2)
def Zle.cok (k:Nat):=cXr true false (cC (Zde.ok k) (cC (Zub.ok k) (cC (Z2g.ok k) cN)))
def Zle.l0.s (k:Nat):Summ:=lp 63 { tmps:=[(3,.eptr [.v (.int .i64),.bor .str,.bor Zz]),(9,.one (.own 2)),(30,.one (.v (.sl (.int .i64)))),(31,.one (.v (.int .i64))),(32,.one (.v (.int .i64)))],slots:=[(2,.arr false 151 Zke)],nb:=3 } [(.exit 0,{ tmps:=[(9,.one (.own 3))],slots:=[(3,.arr false 151 Zke)],nb:=4 })] (fun j x=>Zle.l0 j x.1 x.2.1 x.2.2.1 x.2.2.2.1 x.2.2.2.2.1 x.2.2.2.2.2.1 x.2.2.2.2.2.2) k
def Zle.l0.ok (k:Nat):=(lA (Zle.cok k):Zn Yb _ (.loop (cO (cO (cR (cL (cR (cR (cR (cR (cR (cB Tryz.f128))))))))))) (Zle.l0.s k))
theorem Zle.ok (k:Nat):Zd Yb 128 (Zle.con k):=fP (.two .auto (.two .auto (.two .auto (.two .auto (.two .auto (.two (.two .auto (.one (.sum (Zle.l0.s k)))) .auto)))))) (Zle.cok k) Tryz.func128 (sC (Zle.l0.ok k) sN)
def Ztj (a1:List G52):Option (Int):=some ((a1.length):Int)
def Ztj.con (k:Nat):Con:=Sig.con { ps:=[.val false (.sl T52) (ros (.sl T52))],rs:=[.val false [.v (.int .i64)]],ntmps:=5 } (fun x=>Ztj x)
theorem Ztj.ok (k:Nat):Zd Yb 135 (Ztj.con k):=fA (cX cN) Tryz.func135
def Zko (k:Nat) (a1:G52):Option (Str):=Ya (Zsd k [a1.1,a1.2.1,a1.2.2.1]) fun v2=>Ya (Zgi k a1.2.2.2) fun v3=>Ya (Zae v2 v3) fun v4=>some v4
def Zko.con (k:Nat):Con:=Sig.con { ps:=[.val true T52 (ros T52)],rs:=[.val false [.v .str]],ntmps:=15 } (fun x=>Zko k x)
theorem Zko.ok (k:Nat):Zd Yb 269 (Zko.con k):=fA (cX (cC (Zsd.ok k) (cC (Zgi.ok k) cN))) Tryz.func269
def Zio (k:Nat) (a1:Int) (a2:G52):Option (Str):=Ya (Z8b k a1) fun v3=>Ya (Zko k a2) fun v4=>Ya (Zae v3 v4) fun v5=>Ya (Zhi k v5) fun v6=>some v6
def Zio.con (k:Nat):Con:=Sig.con { ps:=[.val false (.int .i64) (ros (.int .i64)),.val true T52 (ros T52)],rs:=[.val false [.v .str]],ntmps:=11 } (fun x=>Zio k x.1 x.2)
theorem Zio.ok (k:Nat):Zd Yb 219 (Zio.con k):=fA (cX (cC (Zhi.ok k) (cC (Z8b.ok k) (cC (Zko.ok k) cN)))) Tryz.func219
def Z2n (k:Nat) (a1:G28) (a2:G46) (a3:List G52) (a4:G52):Option (List Zkg×Str×List Int×Int):=bif a2.1 != 2 then some ([],[],[],10) else Ya (Ztj a3) fun v5=>bif v5==a2.2.2.1 then some ([],[],[],9) else Ya (Zfb 40 a3 [a4]) fun v6=>Ya (Z8c k v6 a1.1) fun v7=>bif v7 != 0 then some ([],[],[],v7) else Ya (at? a2.2.2.2.2.2.2.2 (Yc .i64 (a2.2.2.2.1+v5))) fun v8=>Ya (Z2g a1 v8) fun v9=>Ya (Zio k v5 a4) fun v10=>let e11:=[(false,(v9,v10))];bif a4.1==5 then Ya (Zfb 32 e11 ([(true,(0,[]))])) fun v12=>some (v12,[],[],0) else some (e11,[],[],0)
def Z2n.con (k:Nat):Con:=Sig.con { ps:=[.val true T28 (ros T28),.val true T46 (ros T46),.mv 52 T52,.val true T52 (ros T52)],rs:=[.val true [.own 151 Zke,.v .str,.own 2 (.int .i64),.v (.int .i64)]],ntmps:=58 } (fun x=>Z2n k x.1 x.2.1 x.2.2.1 x.2.2.2)
theorem Z2n.ok (k:Nat):Zd Yb 129 (Z2n.con k):=fA (cXr true false (cC (Z8c.ok k) (cC (Ztj.ok k) (cC (Z2g.ok k) (cC (Zio.ok k) cN))))) Tryz.func129
def strings_Repeat (a:Str) (n:Int):Option Str:=if 0≤n∧(a.length:Int)*n≤140737488355328∧n≤9223372036854775807 then some (Lib.repeatL a n.toNat) else none
def strings_Repeat.sig:Sig:={ ps:=[.val false .str (ros .str),.val false (.int .i64) (ros (.int .i64))],rs:=[.val false [.v .str]],ntmps:=0 }
def strings_Repeat.con (k:Nat):Con:=strings_Repeat.sig.con (fun x=>strings_Repeat x.1 x.2)
theorem strings_Repeat.ok (k:Nat):Zd Yb 294 (strings_Repeat.con k):=Z6hb (Z70 Tryz.func294 (by kernel_rfl) (show Yw.body=some (cB Yw) by kernel_rfl)) (by kernel_rfl) (by kernel_rfl) (by
 intro (x:Str×Int) (y:Str) w h
 obtain ⟨a,n⟩:=x
 replace h:strings_Repeat a n=some y:=h
 unfold strings_Repeat at h
 split at h
 ·rename_i h0
  obtain ⟨h0,h1,h2⟩:=h0;injection h with h
  subst h;obtain ⟨c,rfl⟩:∃c:Nat,n=(c:Int):=⟨n.toNat,by omega⟩;have h3:((a.length*c:Nat):Int)≤140737488355328:=by rw [Int.natCast_mul];exact h1
  have h1':a.length*c≤140737488355328:=by omega
  refine (Tryz.strings_Repeat (ba a) c w (by omega) h1').mono ?_;rintro e w' ⟨rfl,bel⟩;exact ⟨[.string (ba (Lib.repeatL a c))],rfl,rfl,rfl,bel⟩
 ·cases h)
def Zrd.l0:Nat→Int→Int→List Int→Option ((List Int))
 | 0,_,_,_=>none
 | j+1,a1,a2,a3=>bif decide (0≤a2) then Ya (at? a3 a2) fun v4=>Ya (at? a3 a2) fun v5=>Ya (Zkb 8) fun v6=>Zrd.l0 j (shr .u64 a1 8) (Yc .i64 (a2-1)) (Yf a3 (Ye a2) (Yc .u8 a1)) else some a3
def Zrd (k:Nat) (a1:Int) (a2:Int):Option (Str):=Ya (Zdg 1 a2 a2 0) fun v3=>Ya (Zrd.l0 k a1 (Yc .i64 (a2-1)) v3) fun y4=>some (Zhb y4)
def Zrd.con (k:Nat):Con:=Sig.con { ps:=[.val false (.int .u64) (ros (.int .u64)),.val false (.int .i64) (ros (.int .i64))],rs:=[.val false [.v .str]],ntmps:=24 } (fun x=>Zrd k x.1 x.2)
def Zrd.cok (k:Nat):=cX cN
def Zrd.l0.s (k:Nat):Summ:=lp 24 { tmps:=[(0,.one (.v (.int .u64))),(5,.one (.own 1)),(6,.one (.v (.int .i64)))],slots:=[(1,.arr false 5 (.int .u8))],nb:=2 } [(.exit 0,{ tmps:=[(5,.one (.own 2))],slots:=[(2,.arr false 5 (.int .u8))],nb:=3 })] (fun j x=>Zrd.l0 j x.1 x.2.1 x.2.2) k
def Zrd.l0.ok (k:Nat):=(lA (Zrd.cok k):Zn Yb _ (.loop (cO (cO (cR (cL (cR (cR (cB Tryz.f295)))))))) (Zrd.l0.s k))
theorem Zrd.ok (k:Nat):Zd Yb 295 (Zrd.con k):=fP (.two .auto (.two .auto (.two (.two .auto (.one (.sum (Zrd.l0.s k)))) .auto))) (Zrd.cok k) Tryz.func295 (sC (Zrd.l0.ok k) sN)
def Z5n (a1:Str):Option (Int):=Ya (at? a1 0) fun v2=>Ya (Zkb 24) fun v3=>Ya (at? a1 1) fun v4=>Ya (Zkb 16) fun v5=>Ya (at? a1 2) fun v6=>Ya (Zkb 8) fun v7=>Ya (at? a1 3) fun v8=>some (intBits .or .u32 (intBits .or .u32 (intBits .or .u32 (shl .u32 (Yc .u32 (v2.toNat:Int)) 24) (shl .u32 (Yc .u32 (v4.toNat:Int)) 16)) (shl .u32 (Yc .u32 (v6.toNat:Int)) 8)) (Yc .u32 (v8.toNat:Int)))
def Z5n.con (k:Nat):Con:=Sig.con { ps:=[.val false .str (ros .str)],rs:=[.val false [.v (.int .u32)]],ntmps:=21 } (fun x=>Z5n x)
theorem Z5n.ok (k:Nat):Zd Yb 311 (Z5n.con k):=fA (cX cN) Tryz.func311
def Zsp (a1:Int) (a2:Int):Option (Int):=let e3:=intBits .and .u64 (Yc .u64 a2) 31;Ya (Zkb e3) fun v4=>let e5:=Yc .u64 (32-e3);Ya (Zkb e5) fun v6=>some (intBits .or .u32 (shl .u32 a1 e3) (shr .u32 a1 e5))
def Zsp.con (k:Nat):Con:=Sig.con { ps:=[.val false (.int .u32) (ros (.int .u32)),.val false (.int .i64) (ros (.int .i64))],rs:=[.val false [.v (.int .u32)]],ntmps:=17 } (fun x=>Zsp x.1 x.2)
theorem Zsp.ok (k:Nat):Zd Yb 321 (Zsp.con k):=fA (cX cN) Tryz.func321
def Zah (a1:Int) (a2:Int):Option (Int):=Ya (Zsp a1 (Yc .i64 (0-a2))) fun v3=>some v3
def Zah.con (k:Nat):Con:=Sig.con { ps:=[.val false (.int .u32) (ros (.int .u32)),.val false (.int .i64) (ros (.int .i64))],rs:=[.val false [.v (.int .u32)]],ntmps:=9 } (fun x=>Zah x.1 x.2)
theorem Zah.ok (k:Nat):Zd Yb 312 (Zah.con k):=fA (cX (cC (Zsp.ok k) cN)) Tryz.func312
def Zmb.l0:Nat→Str→Int→List Int→Option ((List Int))
 | 0,_,_,_=>none
 | j+1,a1,a2,a3=>bif decide (a2<64) then let e4:=Yc .i64 (a2+1);bif decide (a2<16) then Ya (Z3b a1 (Yc .i64 (4*a2)) ((a1.length):Int)) fun v5=>Ya (Z5n v5) fun v6=>Ya (at? a3 a2) fun v7=>Ya (Zpq a3 a2 v6) fun v8=>Zmb.l0 j a1 e4 v8 else let e9:=at? a3 (Yc .i64 (a2-15));Ya (e9) fun v10=>Ya (e9) fun v11=>let e12:=at? a3 (Yc .i64 (a2-2));Ya (e12) fun v13=>Ya (e12) fun v14=>Ya (Zah v11 7) fun v15=>Ya (Zah v11 18) fun v16=>Ya (Zkb 3) fun v17=>Ya (Zah v14 17) fun v18=>Ya (Zah v14 19) fun v19=>Ya (Zkb 10) fun v20=>let e21:=at? a3 (Yc .i64 (a2-16));Ya (e21) fun v22=>Ya (e21) fun v23=>let e24:=at? a3 (Yc .i64 (a2-7));Ya (e24) fun v25=>Ya (e24) fun v26=>Ya (at? a3 a2) fun v27=>Ya (Zpq a3 a2 (Yc .u32 ((Yc .u32 ((Yc .u32 (v23+(intBits .xor .u32 (intBits .xor .u32 v15 v16) (shr .u32 v11 3))))+v26))+(intBits .xor .u32 (intBits .xor .u32 v18 v19) (shr .u32 v14 10))))) fun v28=>Zmb.l0 j a1 e4 v28 else some a3
def Zmb.l1:Nat→Int→Int→Int→Int→Int→Int→Int→Int→Int→List Int→Option ((Int×Int×Int×Int×Int×Int×Int×Int))
 | 0,_,_,_,_,_,_,_,_,_,_=>none
 | j+1,a1,a2,a3,a4,a5,a6,a7,a8,a9,a10=>bif decide (a9<64) then Ya (Zah a5 6) fun v11=>Ya (Zah a5 11) fun v12=>Ya (Zah a5 25) fun v13=>Ya (at? Z4l a9) fun v14=>Ya (at? a10 a9) fun v15=>Ya (at? a10 a9) fun v16=>Ya (Zah a1 2) fun v17=>Ya (Zah a1 13) fun v18=>Ya (Zah a1 22) fun v19=>let e20:=Yc .u32 ((Yc .u32 ((Yc .u32 ((Yc .u32 (a8+(intBits .xor .u32 (intBits .xor .u32 v11 v12) v13)))+(intBits .xor .u32 (intBits .and .u32 a5 a6) (intBits .and .u32 (intBits .xor .u32 (IntKind.max .u32) a5) a7))))+v14))+v16);Zmb.l1 j (Yc .u32 (e20+(Yc .u32 ((intBits .xor .u32 (intBits .xor .u32 v17 v18) v19)+(intBits .xor .u32 (intBits .xor .u32 (intBits .and .u32 a1 a2) (intBits .and .u32 a1 a3)) (intBits .and .u32 a2 a3)))))) a1 a2 a3 (Yc .u32 (a4+e20)) a5 a6 a7 (Yc .i64 (a9+1)) a10 else some (a1,a2,a3,a4,a5,a6,a7,a8)
def Zmb.l2:Nat→Int→Int→Int→Int→Int→Int→Int→Int→Int→List Int→Option ((List Int))
 | 0,_,_,_,_,_,_,_,_,_,_=>none
 | j+1,a1,a2,a3,a4,a5,a6,a7,a8,a9,a10=>bif decide (a9<8) then Ya (at? [a1,a2,a3,a4,a5,a6,a7,a8] a9) fun v11=>Ya (at? a10 a9) fun v12=>Ya (at? a10 a9) fun v13=>Ya (at? a10 a9) fun v14=>Ya (Zpq a10 a9 (Yc .u32 (v13+v11))) fun v15=>Zmb.l2 j a1 a2 a3 a4 a5 a6 a7 a8 (Yc .i64 (a9+1)) v15 else some a10
def Zmb (k:Nat) (a1:List Int) (a2:Str):Option (List Int):=Ya (Zmb.l0 k a2 0 (Yj 64 (0:Int))) fun y3=>Ya (at? a1 0) fun v4=>Ya (at? a1 0) fun v5=>Ya (at? a1 1) fun v6=>Ya (at? a1 1) fun v7=>Ya (at? a1 2) fun v8=>Ya (at? a1 2) fun v9=>Ya (at? a1 3) fun v10=>Ya (at? a1 3) fun v11=>Ya (at? a1 4) fun v12=>Ya (at? a1 4) fun v13=>Ya (at? a1 5) fun v14=>Ya (at? a1 5) fun v15=>Ya (at? a1 6) fun v16=>Ya (at? a1 6) fun v17=>Ya (at? a1 7) fun v18=>Ya (at? a1 7) fun v19=>Ya (Zmb.l1 k v5 v7 v9 v11 v13 v15 v17 v19 0 y3) fun y20=>Ya (Zmb.l2 k y20.1 y20.2.1 y20.2.2.1 y20.2.2.2.1 y20.2.2.2.2.1 y20.2.2.2.2.2.1 y20.2.2.2.2.2.2.1 y20.2.2.2.2.2.2.2 0 a1) fun y21=>some y21
def Zmb.con (k:Nat):Con:=Sig.con { ps:=[.val false (.sl (.int .u32)) [.own 2000008],.val false .str (ros .str)],rs:=[],ntmps:=193 } (fun x=>Zmb k x.1 x.2)
def Zmb.cok (k:Nat):=cX (cC (Z5n.ok k) (cC (Zah.ok k) cN))
def Zmb.l0.s (k:Nat):Summ:=lp 193 { tmps:=[(1,.one (.v .str)),(4,.one (.own 2)),(23,.one (.v (.int .i64)))],slots:=[(2,.arr false 2000064 (.int .u32))],nb:=3 } [(.exit 0,{ tmps:=[(4,.one (.own 3))],slots:=[(3,.arr false 2000064 (.int .u32))],nb:=4 })] (fun j x=>Zmb.l0 j x.1 x.2.1 x.2.2) k
def Zmb.l0.ok (k:Nat):=(lA (Zmb.cok k):Zn Yb _ (.loop (cO (cO (cR (cL (cR (cB Yl))))))) (Zmb.l0.s k))
def Zmb.l1.s (k:Nat):Summ:=lp 193 { tmps:=[(4,.one (.own 4)),(10,.one (.v (.int .u32))),(11,.one (.v (.int .u32))),(12,.one (.v (.int .u32))),(13,.one (.v (.int .u32))),(14,.one (.v (.int .u32))),(15,.one (.v (.int .u32))),(16,.one (.v (.int .u32))),(17,.one (.v (.int .u32))),(107,.one (.v (.int .i64)))],slots:=[(4,.arr false 2000064 (.int .u32))],nb:=5 } [(.exit 2,{ tmps:=[(10,.one (.v (.int .u32))),(11,.one (.v (.int .u32))),(12,.one (.v (.int .u32))),(13,.one (.v (.int .u32))),(14,.one (.v (.int .u32))),(15,.one (.v (.int .u32))),(16,.one (.v (.int .u32))),(17,.one (.v (.int .u32)))],slots:=[],nb:=5 })] (fun j x=>Zmb.l1 j x.1 x.2.1 x.2.2.1 x.2.2.2.1 x.2.2.2.2.1 x.2.2.2.2.2.1 x.2.2.2.2.2.2.1 x.2.2.2.2.2.2.2.1 x.2.2.2.2.2.2.2.2.1 x.2.2.2.2.2.2.2.2.2) k
def Zmb.l1.ok (k:Nat):=(lA (Zmb.cok k):Zn Yb _ (.loop (cO (cO (cR (cL (cR (cR (cR (cB Yl))))))))) (Zmb.l1.s k))
def Zmb.l2.s (k:Nat):Summ:=lp 193 { tmps:=[(0,.one (.pin 0)),(178,.agg [.v (.int .u32),.v (.int .u32),.v (.int .u32),.v (.int .u32),.v (.int .u32),.v (.int .u32),.v (.int .u32),.v (.int .u32)]),(179,.one (.v (.int .i64)))],slots:=[(0,.pin 2000008 (.int .u32))],nb:=5 } [(.exit 4,{ tmps:=[],slots:=[(0,.pin 2000008 (.int .u32))],nb:=5 })] (fun j x=>Zmb.l2 j x.1 x.2.1 x.2.2.1 x.2.2.2.1 x.2.2.2.2.1 x.2.2.2.2.2.1 x.2.2.2.2.2.2.1 x.2.2.2.2.2.2.2.1 x.2.2.2.2.2.2.2.2.1 x.2.2.2.2.2.2.2.2.2) k
def Zmb.l2.ok (k:Nat):=(lA (Zmb.cok k):Zn Yb _ (.loop (cO (cO (cR (cR (cR (cR (cR (cB Yl))))))))) (Zmb.l2.s k))
theorem Zmb.ok (k:Nat):Zd Yb 296 (Zmb.con k):=fP (.two .auto (.two (.two .auto (.one (.sum (Zmb.l0.s k)))) (.two .auto (.two (.two .auto (.one (.sum (Zmb.l1.s k)))) (.two .auto (.one (.sum (Zmb.l2.s k)))))))) (Zmb.cok k) Tryz.func296 (sC (Zmb.l0.ok k) (sC (Zmb.l1.ok k) (sC (Zmb.l2.ok k) sN)))
def Zoc.l0 (k:Nat):Nat→Str→List Int→Option ((List Int))
 | 0,_,_=>none
 | j+1,a1,a2=>bif !(a1==[]) then Ya (Z3b a1 0 64) fun v3=>Ya (Zmb k a2 v3) fun v4=>Ya (Z3b a1 64 ((a1.length):Int)) fun v5=>Zoc.l0 k j v5 v4 else some a2
def Zoc.l1 (k:Nat):Nat→Str→Int→Int→Int→Int→Int→Int→Int→Int→Int→Option (Str)
 | 0,_,_,_,_,_,_,_,_,_,_=>none
 | j+1,a1,a2,a3,a4,a5,a6,a7,a8,a9,a10=>bif decide (a10<8) then Ya (at? [a2,a3,a4,a5,a6,a7,a8,a9] a10) fun v11=>Ya (Zrd k (Yc .u64 v11) 4) fun v12=>Ya (Zae a1 v12) fun v13=>Zoc.l1 k j v13 a2 a3 a4 a5 a6 a7 a8 a9 (Yc .i64 (a10+1)) else some a1
def Zoc (k:Nat) (a1:Str):Option (Str):=Ya (nz? 64) fun v2=>Ya (nz? 64) fun v3=>Ya (Zae a1 ([128]:Str)) fun v4=>Ya (strings_Repeat ([0]:Str) (Int.tmod (Yc .i64 (119-(Int.tmod ((a1.length):Int) 64))) 64)) fun v5=>Ya (Zae v4 v5) fun v6=>Ya (Zrd k (Yc .u64 (8*(Yc .u64 ((a1.length):Int)))) 8) fun v7=>Ya (Zae v6 v7) fun v8=>Ya (Zoc.l0 k k v8 [(Yd Z3l 0 0),(Yd Z3l 1 0),(Yd Z3l 2 0),(Yd Z3l 3 0),(Yd Z3l 4 0),(Yd Z3l 5 0),(Yd Z3l 6 0),(Yd Z3l 7 0)]) fun y9=>Ya (Zoc.l1 k k [] (Yd y9 0 0) (Yd y9 1 0) (Yd y9 2 0) (Yd y9 3 0) (Yd y9 4 0) (Yd y9 5 0) (Yd y9 6 0) (Yd y9 7 0) 0) fun y10=>some y10
def Zoc.con (k:Nat):Con:=Sig.con { ps:=[.val false .str (ros .str)],rs:=[.val false [.v .str]],ntmps:=44 } (fun x=>Zoc k x)
def Zoc.cok (k:Nat):=cX (cC (strings_Repeat.ok k) (cC (Zrd.ok k) (cC (Zmb.ok k) cN)))
def Zoc.l0.s (k:Nat):Summ:=lp 44 { tmps:=[(3,.one (.own 1)),(5,.one (.v .str))],slots:=[(1,.arr false 2000008 (.int .u32))],nb:=2 } [(.exit 0,{ tmps:=[(3,.one (.own 2))],slots:=[(2,.arr false 2000008 (.int .u32))],nb:=3 })] (fun j x=>Zoc.l0 k j x.1 x.2) k
def Zoc.l0.ok (k:Nat):=(lA (Zoc.cok k):Zn Yb _ (.loop (cO (cO (cL (cR (cR (cR (cR (cB Yv))))))))) (Zoc.l0.s k))
def Zoc.l1.s (k:Nat):Summ:=lp 44 { tmps:=[(6,.one (.v .str)),(33,.agg [.v (.int .u32),.v (.int .u32),.v (.int .u32),.v (.int .u32),.v (.int .u32),.v (.int .u32),.v (.int .u32),.v (.int .u32)]),(34,.one (.v (.int .i64)))],slots:=[],nb:=3 } [(.exit 2,{ tmps:=[(6,.one (.v .str))],slots:=[],nb:=3 })] (fun j x=>Zoc.l1 k j x.1 x.2.1 x.2.2.1 x.2.2.2.1 x.2.2.2.2.1 x.2.2.2.2.2.1 x.2.2.2.2.2.2.1 x.2.2.2.2.2.2.2.1 x.2.2.2.2.2.2.2.2.1 x.2.2.2.2.2.2.2.2.2) k
def Zoc.l1.ok (k:Nat):=(lA (Zoc.cok k):Zn Yb _ (.loop (cO (cO (cR (cL (cR (cR (cR (cR (cR (cR (cB Yv)))))))))))) (Zoc.l1.s k))
theorem Zoc.ok (k:Nat):Zd Yb 270 (Zoc.con k):=fP (.two .auto (.two .auto (.two .auto (.two .auto (.two (.one (.sum (Zoc.l0.s k))) (.two .auto (.two (.two .auto (.one (.sum (Zoc.l1.s k)))) .auto))))))) (Zoc.cok k) Tryz.func270 (sC (Zoc.l0.ok k) (sC (Zoc.l1.ok k) sN))
end Go.Proofs.Qz
