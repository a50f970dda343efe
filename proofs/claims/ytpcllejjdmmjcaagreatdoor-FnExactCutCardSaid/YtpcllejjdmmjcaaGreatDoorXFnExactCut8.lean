/- What the law FnExactCut needs, part 9 of 15: the Lean functions of the Go functions that it reaches, with the proofs that the calls come to what they say, and plain facts about them. Conditions: those that each theorem states. Written by a session and by its programs (after the kit's printer). -/
import Derived.Test.YtpcllejjdmmjcaaGreatDoorXFnExactCut7
open Option renaming bind → Ya
open Go.IntKind renaming wrap → Yb
open Go.Proofs.Tryz renaming prog → Yc, f253 → Yg, f87 → Yh, f161 → Yj, f284 → Yk, f260 → Yl, f88 → Ym
open Int renaming toNat → Yd, tmod → Yf, tdiv → Yi
open List renaming set → Ye
namespace Go.Proofs.Qz
open Go Go.RowKit
set_option linter.unusedVariables false
set_option linter.defProp false
def Z6r (a1:G52) (a2:Int):Option (Int):=let e3:=Yb .i64 (a2-((a1.2.2.2.length):Int));bif decide (e3<0) then some (-1) else some e3
def Z6r.con (k:Nat):Con:=Sig.con { ps:=[.val true T52 (ros T52),.val false (.int .i64) (ros (.int .i64))],rs:=[.val false [.v (.int .i64)]],ntmps:=13 } (fun x=>Z6r x.1 x.2)
theorem Z6r.ok (k:Nat):Zf Yc 68 (Z6r.con k):=fA (cX cN) Tryz.func68
def Zyp (a1:G54) (a2:Int):Option (Int):=let e3:=Yb .i64 (a2-((a1.2.2.2.1.length):Int));bif decide (e3<0) then some (-1) else Ya (Z6r a1.2.2.2.2 e3) fun v4=>bif decide (v4<0) then some (-1) else some v4
def Zyp.con (k:Nat):Con:=Sig.con { ps:=[.val true T54 (ros T54),.val false (.int .i64) (ros (.int .i64))],rs:=[.val false [.v (.int .i64)]],ntmps:=19 } (fun x=>Zyp x.1 x.2)
theorem Zyp.ok (k:Nat):Zf Yc 20 (Zyp.con k):=fA (cX (cC (Z6r.ok k) cN)) Tryz.func20
def Zbf.l0:Nat→List Str→Int→List Str→Option ((List Str))
 | 0,_,_,_=>none
 | j+1,a1,a2,a3=>bif decide (a2<((a1.length):Int)) then Ya (at? a1 a2) fun v4=>Ya (at? a3 a2) fun v5=>Ya (at? a3 a2) fun v6=>Zbf.l0 j a1 (Yb .i64 (a2+1)) (Ye a3 (Yd a2) v4) else some a3
def Zbf (k:Nat) (a1:List Str):Option (List Str):=Ya (Ztg 16 ((a1.length):Int) ((a1.length):Int) []) fun v2=>Ya (Zbf.l0 k a1 0 v2) fun y3=>some y3
def Zbf.con (k:Nat):Con:=Sig.con { ps:=[.val false (.sl .str) (ros (.sl .str))],rs:=[.val false [.own 9 .str]],ntmps:=22 } (fun x=>Zbf k x)
def Zbf.cok (k:Nat):=cX cN
def Zbf.l0.s (k:Nat):Summ:=lp 22 { tmps:=[(0,.one (.bor .str)),(3,.one (.own 1)),(4,.one (.v (.int .i64)))],slots:=[(1,.arr false 9 .str)],nb:=2 } [(.exit 0,{ tmps:=[(3,.one (.own 2))],slots:=[(2,.arr false 9 .str)],nb:=3 })] (fun j x=>Zbf.l0 j x.1 x.2.1 x.2.2) k
def Zbf.l0.ok (k:Nat):=(lA (Zbf.cok k):Zj Yc _ (.loop (cO (cO (cR (cL (cR (cR (cB Tryz.f154)))))))) (Zbf.l0.s k))
theorem Zbf.ok (k:Nat):Zf Yc 154 (Zbf.con k):=fP (.two .auto (.two .auto (.two (.two .auto (.one (.sum (Zbf.l0.s k)))) .auto))) (Zbf.cok k) Tryz.func154 (sC (Zbf.l0.ok k) sN)
def Ztt (a1:Zq):Option (Int×Str):=some (a1.1,a1.2)
def Ztt.con (k:Nat):Con:=Sig.con { ps:=[.val true Zp (ros Zp)],rs:=[.val true [.v (.int .i64),.v .str]],ntmps:=11 } (fun x=>Ztt x)
theorem Ztt.ok (k:Nat):Zf Yc 240 (Ztt.con k):=fA (cX cN) Tryz.func240
def Zaf.l0:Nat→List Zq→Int→List Zq→Option ((List Zq))
 | 0,_,_,_=>none
 | j+1,a1,a2,a3=>bif decide (a2<((a1.length):Int)) then Ya (at? a1 a2) fun v4=>Ya (Ztt v4) fun v5=>Ya (at? a3 a2) fun v6=>Ya (at? a3 a2) fun v7=>Zaf.l0 j a1 (Yb .i64 (a2+1)) (Ye a3 (Yd a2) v5) else some a3
def Zaf (k:Nat) (a1:List Zq):Option (List Zq):=Ya (Ztg 24 ((a1.length):Int) ((a1.length):Int) (0,[])) fun v2=>Ya (Zaf.l0 k a1 0 v2) fun y3=>some y3
def Zaf.con (k:Nat):Con:=Sig.con { ps:=[.val false (.sl Zp) (ros (.sl Zp))],rs:=[.val false [.own 195 Zp]],ntmps:=23 } (fun x=>Zaf k x)
def Zaf.cok (k:Nat):=cX (cC (Ztt.ok k) cN)
def Zaf.l0.s (k:Nat):Summ:=lp 23 { tmps:=[(0,.one (.bor Zp)),(3,.one (.own 1)),(4,.one (.v (.int .i64)))],slots:=[(1,.arr false 195 Zp)],nb:=2 } [(.exit 0,{ tmps:=[(3,.one (.own 2))],slots:=[(2,.arr false 195 Zp)],nb:=3 })] (fun j x=>Zaf.l0 j x.1 x.2.1 x.2.2) k
def Zaf.l0.ok (k:Nat):=(lA (Zaf.cok k):Zj Yc _ (.loop (cO (cO (cR (cL (cR (cR (cB Tryz.f155)))))))) (Zaf.l0.s k))
theorem Zaf.ok (k:Nat):Zf Yc 155 (Zaf.con k):=fP (.two .auto (.two .auto (.two (.two .auto (.one (.sum (Zaf.l0.s k)))) .auto))) (Zaf.cok k) Tryz.func155 (sC (Zaf.l0.ok k) sN)
def Z2p (k:Nat) (a1:G26):Option (List Str×List Zq):=Ya (Zbf k a1.1) fun v2=>Ya (Zaf k a1.2) fun v3=>some (v2,v3)
def Z2p.con (k:Nat):Con:=Sig.con { ps:=[.val true T26 (ros T26)],rs:=[.val true [.own 9 .str,.own 195 Zp]],ntmps:=13 } (fun x=>Z2p k x)
theorem Z2p.ok (k:Nat):Zf Yc 71 (Z2p.con k):=fA (cXr true false (cC (Zbf.ok k) (cC (Zaf.ok k) cN))) Tryz.func71
def Zrl (k:Nat) (a1:G28):Option (Int×List Str×List Zq):=Ya (Z2p k a1.2) fun v2=>some (a1.1,v2.1,v2.2)
def Zrl.con (k:Nat):Con:=Sig.con { ps:=[.val true T28 (ros T28)],rs:=[.val true [.v (.int .i64),.own 9 .str,.own 195 Zp]],ntmps:=12 } (fun x=>Zrl k x)
theorem Zrl.ok (k:Nat):Zf Yc 22 (Zrl.con k):=fA (cXr true false (cC (Z2p.ok k) cN)) Tryz.func22
def Zut (a1:G52):Option (Int×Int×Int×Str):=some (a1.1,a1.2.1,a1.2.2.1,a1.2.2.2)
def Zut.con (k:Nat):Con:=Sig.con { ps:=[.val true T52 (ros T52)],rs:=[.val true [.v (.int .i64),.v (.int .i64),.v (.int .i64),.v .str]],ntmps:=17 } (fun x=>Zut x)
theorem Zut.ok (k:Nat):Zf Yc 72 (Zut.con k):=fA (cX cN) Tryz.func72
def Z0n (a1:G54):Option (Int×Int×Int×Str×Int×Int×Int×Str):=Ya (Zut a1.2.2.2.2) fun v2=>some (a1.1,a1.2.1,a1.2.2.1,a1.2.2.2.1,v2.1,v2.2.1,v2.2.2.1,v2.2.2.2)
def Z0n.con (k:Nat):Con:=Sig.con { ps:=[.val true T54 (ros T54)],rs:=[.val true [.v (.int .i64),.v (.int .i64),.v (.int .i64),.v .str,.v (.int .i64),.v (.int .i64),.v (.int .i64),.v .str]],ntmps:=21 } (fun x=>Z0n x)
theorem Z0n.ok (k:Nat):Zf Yc 23 (Z0n.con k):=fA (cX (cC (Zut.ok k) cN)) Tryz.func23
def Zuf.l0:Nat→List Str→List Str→Int→Option (Unit ⊕ Bool)
 | 0,_,_,_=>none
 | j+1,a1,a2,a3=>bif decide (a3<((a1.length):Int)) then Ya (at? a1 a3) fun v4=>Ya (at? a2 a3) fun v5=>bif !(v4==v5) then some (.inr false) else Zuf.l0 j a1 a2 (Yb .i64 (a3+1)) else some (.inl ())
def Zuf (k:Nat) (a1:List Str) (a2:List Str):Option (Bool):=bif ((a1.length):Int) != ((a2.length):Int) then some false else Ya (Zuf.l0 k a1 a2 0) fun
  | .inl y3=>some true
  | .inr y4=>some y4
def Zuf.con (k:Nat):Con:=Sig.con { ps:=[.val false (.sl .str) (ros (.sl .str)),.val false (.sl .str) (ros (.sl .str))],rs:=[.val false [.v .bool]],ntmps:=26 } (fun x=>Zuf k x.1 x.2)
def Zuf.cok (k:Nat):=cX cN
def Zuf.l0.s (k:Nat):Summ:=lp 26 { tmps:=[(0,.one (.bor .str)),(1,.one (.bor .str)),(5,.one (.v (.int .i64)))],slots:=[],nb:=0 } [(.exit 0,{ tmps:=[],slots:=[],nb:=0 }),(.ret,{ tmps:=[(4,.one (.v .bool))],slots:=[],nb:=0 })] (fun j x=>Zuf.l0 j x.1 x.2.1 x.2.2) k
def Zuf.l0.ok (k:Nat):=(lA (Zuf.cok k):Zj Yc _ (.loop (cO (cO (cR (cL (cR (cR (cB Tryz.f156)))))))) (Zuf.l0.s k))
theorem Zuf.ok (k:Nat):Zf Yc 156 (Zuf.con k):=fP (.two .auto (.two .auto (.two (.two .auto (.one (.sum (Zuf.l0.s k)))) .auto))) (Zuf.cok k) Tryz.func156 (sC (Zuf.l0.ok k) sN)
def Zup (a1:Zq) (a2:Zq):Option (Bool):=bif a1.1 != a2.1 then some false else bif !(a1.2==a2.2) then some false else some true
def Zup.con (k:Nat):Con:=Sig.con { ps:=[.val true Zp (ros Zp),.val true Zp (ros Zp)],rs:=[.val false [.v .bool]],ntmps:=15 } (fun x=>Zup x.1 x.2)
theorem Zup.ok (k:Nat):Zf Yc 241 (Zup.con k):=fA (cX cN) Tryz.func241
def Zsf.l0:Nat→List Zq→List Zq→Int→Option (Unit ⊕ Bool)
 | 0,_,_,_=>none
 | j+1,a1,a2,a3=>bif decide (a3<((a1.length):Int)) then Ya (at? a1 a3) fun v4=>Ya (at? a2 a3) fun v5=>Ya (Zup v4 v5) fun v6=>bif !v6 then some (.inr false) else Zsf.l0 j a1 a2 (Yb .i64 (a3+1)) else some (.inl ())
def Zsf (k:Nat) (a1:List Zq) (a2:List Zq):Option (Bool):=bif ((a1.length):Int) != ((a2.length):Int) then some false else Ya (Zsf.l0 k a1 a2 0) fun
  | .inl y3=>some true
  | .inr y4=>some y4
def Zsf.con (k:Nat):Con:=Sig.con { ps:=[.val false (.sl Zp) (ros (.sl Zp)),.val false (.sl Zp) (ros (.sl Zp))],rs:=[.val false [.v .bool]],ntmps:=27 } (fun x=>Zsf k x.1 x.2)
def Zsf.cok (k:Nat):=cX (cC (Zup.ok k) cN)
def Zsf.l0.s (k:Nat):Summ:=lp 27 { tmps:=[(0,.one (.bor Zp)),(1,.one (.bor Zp)),(5,.one (.v (.int .i64)))],slots:=[],nb:=0 } [(.exit 0,{ tmps:=[],slots:=[],nb:=0 }),(.ret,{ tmps:=[(4,.one (.v .bool))],slots:=[],nb:=0 })] (fun j x=>Zsf.l0 j x.1 x.2.1 x.2.2) k
def Zsf.l0.ok (k:Nat):=(lA (Zsf.cok k):Zj Yc _ (.loop (cO (cO (cR (cL (cR (cR (cB Tryz.f157)))))))) (Zsf.l0.s k))
theorem Zsf.ok (k:Nat):Zf Yc 157 (Zsf.con k):=fP (.two .auto (.two .auto (.two (.two .auto (.one (.sum (Zsf.l0.s k)))) .auto))) (Zsf.cok k) Tryz.func157 (sC (Zsf.l0.ok k) sN)
def Zvp (k:Nat) (a1:G26) (a2:G26):Option (Bool):=Ya (Zuf k a1.1 a2.1) fun v3=>bif !v3 then some false else Ya (Zsf k a1.2 a2.2) fun v4=>bif !v4 then some false else some true
def Zvp.con (k:Nat):Con:=Sig.con { ps:=[.val true T26 (ros T26),.val true T26 (ros T26)],rs:=[.val false [.v .bool]],ntmps:=17 } (fun x=>Zvp k x.1 x.2)
theorem Zvp.ok (k:Nat):Zf Yc 73 (Zvp.con k):=fA (cXr true false (cC (Zuf.ok k) (cC (Zsf.ok k) cN))) Tryz.func73
def Zxk (k:Nat) (a1:G28) (a2:G28):Option (Bool):=bif a1.1 != a2.1 then some false else Ya (Zvp k a1.2 a2.2) fun v3=>bif !v3 then some false else some true
def Zxk.con (k:Nat):Con:=Sig.con { ps:=[.val true T28 (ros T28),.val true T28 (ros T28)],rs:=[.val false [.v .bool]],ntmps:=16 } (fun x=>Zxk k x.1 x.2)
theorem Zxk.ok (k:Nat):Zf Yc 26 (Zxk.con k):=fA (cXr true false (cC (Zvp.ok k) cN)) Tryz.func26
def Z2c.l0:Nat→Int→Str→Option (Str)
 | 0,_,_=>none
 | j+1,a1,a2=>bif decide (0<a1) then Ya (nz? 10) fun v3=>Ya (Zqc (Znb [(Yb .u8 (Yb .i64 (48+(Yf a1 10))))]) a2) fun v4=>Ya (nz? 10) fun v5=>Z2c.l0 j (Yb .i64 (Yi a1 10)) v4 else some a2
def Z2c (k:Nat) (a1:Int):Option (Str):=bif decide (a1≤0) then some ([109,48]:Str) else Ya (Z2c.l0 k a1 []) fun y2=>Ya (Zqc ([109]:Str) y2) fun v3=>some v3
def Z2c.con (k:Nat):Con:=Sig.con { ps:=[.val false (.int .i64) (ros (.int .i64))],rs:=[.val false [.v .str]],ntmps:=20 } (fun x=>Z2c k x)
def Z2c.cok (k:Nat):=cX cN
def Z2c.l0.s (k:Nat):Summ:=lp 20 { tmps:=[(0,.one (.v (.int .i64))),(3,.one (.v .str))],slots:=[],nb:=0 } [(.exit 0,{ tmps:=[(3,.one (.v .str))],slots:=[],nb:=0 })] (fun j x=>Z2c.l0 j x.1 x.2) k
def Z2c.l0.ok (k:Nat):=(lA (Z2c.cok k):Zj Yc _ (.loop (cO (cO (cL (cR (cR (cR (cB Tryz.f242)))))))) (Z2c.l0.s k))
theorem Z2c.ok (k:Nat):Zf Yc 242 (Z2c.con k):=fP (.two .auto (.two .auto (.two .auto (.two (.one (.sum (Z2c.l0.s k))) .auto)))) (Z2c.cok k) Tryz.func242 (sC (Z2c.l0.ok k) sN)
def Zxf.l0 (k:Nat):Nat→Int→Int→List Str→Option ((Int×List Str))
 | 0,_,_,_=>none
 | j+1,a1,a2,a3=>bif decide (a2<((a3.length):Int)) then Ya (Z2c k a1) fun v4=>Ya (at? a3 a2) fun v5=>Ya (at? a3 a2) fun v6=>Zxf.l0 k j (Yb .i64 (a1+1)) (Yb .i64 (a2+1)) (Ye a3 (Yd a2) v4) else some (a1,a3)
def Zxf (k:Nat) (a1:List Str) (a2:Int):Option (Int×List Str):=Ya (Zxf.l0 k k a2 0 a1) fun y3=>some (y3.1,y3.2)
def Zxf.con (k:Nat):Con:=Sig.con { ps:=[.val false (.sl .str) [.own 9],.val false (.int .i64) (ros (.int .i64))],rs:=[.val false [.v (.int .i64)]],ntmps:=20 } (fun x=>Zxf k x.1 x.2)
def Zxf.cok (k:Nat):=cX (cC (Z2c.ok k) cN)
def Zxf.l0.s (k:Nat):Summ:=lp 20 { tmps:=[(0,.one (.pin 0)),(1,.one (.v (.int .i64))),(5,.one (.v (.int .i64)))],slots:=[(0,.pin 9 .str)],nb:=1 } [(.exit 0,{ tmps:=[(1,.one (.v (.int .i64)))],slots:=[(0,.pin 9 .str)],nb:=1 })] (fun j x=>Zxf.l0 k j x.1 x.2.1 x.2.2) k
def Zxf.l0.ok (k:Nat):=(lA (Zxf.cok k):Zj Yc _ (.loop (cO (cO (cR (cL (cR (cB Tryz.f158))))))) (Zxf.l0.s k))
theorem Zxf.ok (k:Nat):Zf Yc 158 (Zxf.con k):=fP (.two .auto (.two (.two .auto (.one (.sum (Zxf.l0.s k)))) .auto)) (Zxf.cok k) Tryz.func158 (sC (Zxf.l0.ok k) sN)
def Z7e.l0 (k:Nat):Nat→Int→Int→List Zq→Option ((Int×List Zq))
 | 0,_,_,_=>none
 | j+1,a1,a2,a3=>bif decide (a2<((a3.length):Int)) then Ya (at? a3 a2) fun v4=>Ya (at? a3 a2) fun v5=>let e6:=Yb .i64 (a1+1);Ya (Z2c k e6) fun v7=>let e8:=Ye a3 (Yd a2) (a1,v5.2);let e9:=at? e8 a2;Ya (e9) fun v10=>Ya (e9) fun v11=>Z7e.l0 k j (Yb .i64 (e6+1)) (Yb .i64 (a2+1)) (Ye e8 (Yd a2) (v11.1,v7)) else some (a1,a3)
def Z7e (k:Nat) (a1:List Zq) (a2:Int):Option (Int×List Zq):=Ya (Z7e.l0 k k a2 0 a1) fun y3=>some (y3.1,y3.2)
def Z7e.con (k:Nat):Con:=Sig.con { ps:=[.val false (.sl Zp) [.own 195],.val false (.int .i64) (ros (.int .i64))],rs:=[.val false [.v (.int .i64)]],ntmps:=28 } (fun x=>Z7e k x.1 x.2)
def Z7e.cok (k:Nat):=cX (cC (Z2c.ok k) cN)
def Z7e.l0.s (k:Nat):Summ:=lp 28 { tmps:=[(0,.one (.pin 0)),(1,.one (.v (.int .i64))),(5,.one (.v (.int .i64)))],slots:=[(0,.pin 195 Zp)],nb:=1 } [(.exit 0,{ tmps:=[(1,.one (.v (.int .i64)))],slots:=[(0,.pin 195 Zp)],nb:=1 })] (fun j x=>Z7e.l0 k j x.1 x.2.1 x.2.2) k
def Z7e.l0.ok (k:Nat):=(lA (Z7e.cok k):Zj Yc _ (.loop (cO (cO (cR (cL (cR (cB Tryz.f159))))))) (Z7e.l0.s k))
theorem Z7e.ok (k:Nat):Zf Yc 159 (Z7e.con k):=fP (.two .auto (.two (.two .auto (.one (.sum (Z7e.l0.s k)))) .auto)) (Z7e.cok k) Tryz.func159 (sC (Z7e.l0.ok k) sN)
def Z5r (k:Nat) (a1:G26) (a2:Int):Option (Int×List Str×List Zq):=Ya (Zxf k a1.1 a2) fun v3=>Ya (Z7e k a1.2 v3.1) fun v4=>some (v4.1,v3.2,v4.2)
def Z5r.con (k:Nat):Con:=Sig.con { ps:=[.val true T26 [.own 9,.own 195],.val false (.int .i64) (ros (.int .i64))],rs:=[.val false [.v (.int .i64)]],ntmps:=14 } (fun x=>Z5r k x.1 x.2)
theorem Z5r.ok (k:Nat):Zf Yc 74 (Z5r.con k):=fA (cX (cC (Zxf.ok k) (cC (Z7e.ok k) cN))) Tryz.func74
def Zxm (k:Nat) (a1:G28) (a2:Int):Option (Int×List Str×List Zq):=Ya (Z5r k a1.2 a2) fun v3=>some (v3.1,v3.2.1,v3.2.2)
def Zxm.con (k:Nat):Con:=Sig.con { ps:=[.val true T28 [.v,.own 9,.own 195],.val false (.int .i64) (ros (.int .i64))],rs:=[.val false [.v (.int .i64)]],ntmps:=10 } (fun x=>Zxm k x.1 x.2)
theorem Zxm.ok (k:Nat):Zf Yc 27 (Zxm.con k):=fA (cX (cC (Z5r.ok k) cN)) Tryz.func27
def Z9k (a1:G26):Option (List Str×List Zq):=Ya (Zs 16 [] a1.1) fun v2=>Ya (Zs 24 [] a1.2) fun v3=>some (v2,v3)
def Z9k.con (k:Nat):Con:=Sig.con { ps:=[.val true T26 (ros T26)],rs:=[.val true [.own 9 .str,.own 195 Zp]],ntmps:=12 } (fun x=>Z9k x)
theorem Z9k.ok (k:Nat):Zf Yc 99 (Z9k.con k):=fA (cXr true false cN) Tryz.func99
def Zal (a1:Int):Option (List Str×List Zq×Str×Int):=some ([],[],[],a1)
def Zal.con (k:Nat):Con:=Sig.con { ps:=[.val false (.int .i64) (ros (.int .i64))],rs:=[.val true [.own 9 .str,.own 195 Zp,.v .str,.v (.int .i64)]],ntmps:=5 } (fun x=>Zal x)
theorem Zal.ok (k:Nat):Zf Yc 102 (Zal.con k):=fA (cX cN) Tryz.func102
def Zfb (a1:Int) (a2:Int) (a3:Int):Option (Bool):=some ((decide (a2≤a1))&&(decide (a1≤a3)))
def Zfb.con (k:Nat):Con:=Sig.con { ps:=[.val false (.int .i64) (ros (.int .i64)),.val false (.int .i64) (ros (.int .i64)),.val false (.int .i64) (ros (.int .i64))],rs:=[.val false [.v .bool]],ntmps:=15 } (fun x=>Zfb x.1 x.2.1 x.2.2)
theorem Zfb.ok (k:Nat):Zf Yc 98 (Zfb.con k):=fA (cX cN) Tryz.func98
def Z1.l0:Nat→List Str→List Zq→Int→Option (Unit ⊕ Bool)
 | 0,_,_,_=>none
 | j+1,a1,a2,a3=>bif decide (a3<((a1.length):Int)) then Ya (at? a1 a3) fun v4=>bif decide (96<((v4.length):Int)) then some (.inr false) else Z1.l0 j a1 a2 (Yb .i64 (a3+1)) else some (.inl ())
def Z1.l1:Nat→List Str→List Zq→Int→Int→Option (Unit ⊕ Bool)
 | 0,_,_,_,_=>none
 | j+1,a1,a2,a3,a4=>bif decide (a4<a3) then Ya (at? a2 a4) fun v5=>Ya (at? a2 a3) fun v6=>bif v5.1==v6.1 then some (.inr false) else Z1.l1 j a1 a2 a3 (Yb .i64 (a4+1)) else some (.inl ())
def Z1.l2 (k:Nat):Nat→List Str→List Zq→Int→Option (Unit ⊕ Bool)
 | 0,_,_,_=>none
 | j+1,a1,a2,a3=>bif decide (a3<((a2.length):Int)) then Ya (at? a2 a3) fun v4=>Ya (Zfb v4.1 0 (Yb .i64 (((a1.length):Int)-1))) fun v5=>bif !v5 then some (.inr false) else Ya (at? a2 a3) fun v6=>bif decide (96<((v6.2.length):Int)) then some (.inr false) else Ya (Z1.l1 k a1 a2 a3 0) fun
    | .inl y7=>Z1.l2 k j a1 a2 (Yb .i64 (a3+1))
    | .inr y8=>some (.inr y8) else some (.inl ())
def Z1 (k:Nat) (a1:G26):Option (Bool):=let e2:=((a1.1.length):Int);bif ((decide (e2<1))||(decide (40<e2)))||(decide (e2<((a1.2.length):Int))) then some false else Ya (Z1.l0 k a1.1 a1.2 0) fun
  | .inl y3=>Ya (Z1.l2 k k a1.1 a1.2 0) fun
    | .inl y4=>some true
    | .inr y5=>some y5
  | .inr y6=>some y6
def Z1.con (k:Nat):Con:=Sig.con { ps:=[.val true T26 (ros T26)],rs:=[.val false [.v .bool]],ntmps:=86 } (fun x=>Z1 k x)
def Z1.cok (k:Nat):=cXr true false (cC (Zfb.ok k) cN)
def Z1.l0.s (k:Nat):Summ:=lp 86 { tmps:=[(1,.eptr [.bor .str,.bor Zp]),(3,.one (.v (.int .i64)))],slots:=[],nb:=0 } [(.exit 0,{ tmps:=[],slots:=[],nb:=0 }),(.ret,{ tmps:=[(2,.one (.v .bool))],slots:=[],nb:=0 })] (fun j x=>Z1.l0 j x.1 x.2.1 x.2.2) k
def Z1.l0.ok (k:Nat):=(lA (Z1.cok k):Zj Yc _ (.loop (cO (cO (cR (cL (cR (cR (cB Yj)))))))) (Z1.l0.s k))
def Z1.l1.s (k:Nat):Summ:=lp 86 { tmps:=[(1,.eptr [.bor .str,.bor Zp]),(4,.one (.v (.int .i64))),(5,.one (.v (.int .i64)))],slots:=[],nb:=0 } [(.exit 4,{ tmps:=[],slots:=[],nb:=0 }),(.ret,{ tmps:=[(2,.one (.v .bool))],slots:=[],nb:=0 })] (fun j x=>Z1.l1 j x.1 x.2.1 x.2.2.1 x.2.2.2) k
def Z1.l1.ok (k:Nat):=(lA (Z1.cok k):Zj Yc _ (.loop (cO (cO (cR (cR (cO (cL (cR (cO (cO (cR (cL (cR (cR (cR (cB Yj)))))))))))))))) (Z1.l1.s k))
def Z1.l2.s (k:Nat):Summ:=lp 86 { tmps:=[(1,.eptr [.bor .str,.bor Zp]),(4,.one (.v (.int .i64)))],slots:=[],nb:=0 } [(.exit 2,{ tmps:=[],slots:=[],nb:=0 }),(.ret,{ tmps:=[(2,.one (.v .bool))],slots:=[],nb:=0 })] (fun j x=>Z1.l2 k j x.1 x.2.1 x.2.2) k
def Z1.l2.ok (k:Nat):=(lP (.two .auto (.two (.one (.two .auto (.two .auto (.one (.sum (Z1.l1.s k)))))) .auto)) (Z1.cok k) (sC (Z1.l1.ok k) sN):Zj Yc _ (.loop (cO (cO (cR (cL (cR (cR (cR (cB Yj))))))))) (Z1.l2.s k))
theorem Z1.ok (k:Nat):Zf Yc 161 (Z1.con k):=fP (.two .auto (.two .auto (.two (.two .auto (.one (.sum (Z1.l0.s k)))) (.two (.two .auto (.one (.sum (Z1.l2.s k)))) .auto)))) (Z1.cok k) Tryz.func161 (sC (Z1.l0.ok k) (sC (Z1.l2.ok k) sN))
def Zeg.l0:Nat→List Str→List Zq→Int→List Str→List Zq→Option ((List Str×List Zq))
 | 0,_,_,_,_,_=>none
 | j+1,a1,a2,a3,a4,a5=>bif decide (a3<((a2.length):Int)) then Ya (at? a2 a3) fun v6=>Ya (at? a2 a3) fun v7=>let e8:=at? a4 v6.1;Ya (e8) fun v9=>Ya (e8) fun v10=>Zeg.l0 j a1 a2 (Yb .i64 (a3+1)) (Ye a4 (Yd v6.1) v7.2) a5 else some (a4,a5)
def Zeg (k:Nat) (a1:G26):Option (List Str×List Zq):=Ya (Zs 16 [] a1.1) fun v2=>Ya (Zeg.l0 k a1.1 a1.2 0 v2 []) fun y3=>some (y3.1,y3.2)
def Zeg.con (k:Nat):Con:=Sig.con { ps:=[.val true T26 (ros T26)],rs:=[.val true [.own 9 .str,.own 195 Zp]],ntmps:=33 } (fun x=>Zeg k x)
def Zeg.cok (k:Nat):=cXr true false cN
def Zeg.l0.s (k:Nat):Summ:=lp 33 { tmps:=[(1,.eptr [.bor .str,.bor Zp]),(3,.one (.ptr 3 0)),(4,.one (.v (.int .i64)))],slots:=[(3,.box 26 [.own 4,.own 5]),(4,.arr false 9 .str),(5,.arr false 195 Zp)],nb:=6 } [(.exit 0,{ tmps:=[],slots:=[(3,.box 26 [.own 6,.own 7]),(6,.arr false 9 .str),(7,.arr false 195 Zp)],nb:=8 })] (fun j x=>Zeg.l0 j x.1 x.2.1 x.2.2.1 x.2.2.2.1 x.2.2.2.2) k
def Zeg.l0.ok (k:Nat):=(lA (Zeg.cok k):Zj Yc _ (.loop (cO (cO (cR (cL (cR (cR (cB Tryz.f188)))))))) (Zeg.l0.s k))
theorem Zeg.ok (k:Nat):Zf Yc 188 (Zeg.con k):=fP (.two .auto (.two .auto (.two (.two .auto (.one (.sum (Zeg.l0.s k)))) .auto))) (Zeg.cok k) Tryz.func188 (sC (Zeg.l0.ok k) sN)
def Znq (k:Nat) (a1:G26):Option (List Str×List Zq×Str×Int):=Ya (Z1 k a1) fun v2=>bif !v2 then Ya (Zal 1) fun v3=>some (v3.1,v3.2.1,v3.2.2.1,v3.2.2.2) else Ya (Zeg k a1) fun v4=>some (v4.1,v4.2,[],0)
def Znq.con (k:Nat):Con:=Sig.con { ps:=[.val true T26 (ros T26)],rs:=[.val true [.own 9 .str,.own 195 Zp,.v .str,.v (.int .i64)]],ntmps:=10 } (fun x=>Znq k x)
theorem Znq.ok (k:Nat):Zf Yc 100 (Znq.con k):=fA (cXr true false (cC (Zal.ok k) (cC (Z1.ok k) (cC (Zeg.ok k) cN)))) Tryz.func100
def Z2f.l0:Nat→Int→Str→Int→List Str→List Zq→List Str→List Zq→Option ((List Str×List Zq×List Str×List Zq) ⊕ (List Str×List Zq))
 | 0,_,_,_,_,_,_,_=>none
 | j+1,a1,a2,a3,a4,a5,a6,a7=>bif decide (a3<((a7.length):Int)) then Ya (at? a7 a3) fun v8=>Ya (at? a7 a3) fun v9=>bif v9.1==a1 then Ya (at? a7 a3) fun v10=>Ya (at? a7 a3) fun v11=>some (.inr (a6,Ye a7 (Yd a3) (v11.1,a2))) else Z2f.l0 j a1 a2 (Yb .i64 (a3+1)) a4 a5 a6 a7 else some (.inl (a4,a5,a6,a7))
def Z2f (k:Nat) (a1:G26) (a2:Int) (a3:Str):Option (List Str×List Zq):=Ya (Z9k a1) fun v4=>Ya (Z2f.l0 k a2 a3 0 [] [] v4.1 v4.2) fun
  | .inl y5=>Ya (Zs 24 y5.2.2.2 [(a2,a3)]) fun v6=>some (y5.2.2.1,v6)
  | .inr y7=>some (y7.1,y7.2)
def Z2f.con (k:Nat):Con:=Sig.con { ps:=[.val true T26 (ros T26),.val false (.int .i64) (ros (.int .i64)),.val false .str (ros .str)],rs:=[.val true [.own 9 .str,.own 195 Zp]],ntmps:=42 } (fun x=>Z2f k x.1 x.2.1 x.2.2)
def Z2f.cok (k:Nat):=cXr true false (cC (Z9k.ok k) cN)
def Z2f.l0.s (k:Nat):Summ:=lp 42 { tmps:=[(1,.one (.v (.int .i64))),(2,.one (.v .str)),(6,.one (.ptr 0 0)),(7,.one (.ptr 3 0)),(8,.one (.v (.int .i64)))],slots:=[(0,.box 26 [.own 4,.own 5]),(3,.box 26 [.own 6,.own 7]),(4,.arr false 9 .str),(5,.arr false 195 Zp),(6,.arr false 9 .str),(7,.arr false 195 Zp)],nb:=8 } [(.exit 0,{ tmps:=[],slots:=[(0,.box 26 [.own 8,.own 9]),(3,.box 26 [.own 10,.own 11]),(8,.arr false 9 .str),(9,.arr false 195 Zp),(10,.arr false 9 .str),(11,.arr false 195 Zp)],nb:=12 }),(.ret,{ tmps:=[],slots:=[(0,.box 26 [.own 8,.own 9]),(3,.box 26 [.own 8,.own 9]),(8,.arr false 9 .str),(9,.arr false 195 Zp)],nb:=10 })] (fun j x=>Z2f.l0 j x.1 x.2.1 x.2.2.1 x.2.2.2.1 x.2.2.2.2.1 x.2.2.2.2.2.1 x.2.2.2.2.2.2) k
def Z2f.l0.ok (k:Nat):=(lA (Z2f.cok k):Zj Yc _ (.loop (cO (cO (cR (cL (cR (cR (cB Tryz.f189)))))))) (Z2f.l0.s k))
theorem Z2f.ok (k:Nat):Zf Yc 189 (Z2f.con k):=fP (.two .auto (.two .auto (.two (.two .auto (.one (.sum (Z2f.l0.s k)))) .auto))) (Z2f.cok k) Tryz.func189 (sC (Z2f.l0.ok k) sN)
def Zoq (k:Nat) (a1:G26) (a2:Int) (a3:Str):Option (List Str×List Zq×Str×Int):=bif decide (8000<((a3.length):Int)) then Ya (Zal 2) fun v4=>some (v4.1,v4.2.1,v4.2.2.1,v4.2.2.2) else Ya (Z1 k a1) fun v5=>bif (!v5)||(decide (96<((a3.length):Int))) then Ya (Zal 1) fun v6=>some (v6.1,v6.2.1,v6.2.2.1,v6.2.2.2) else Ya (Zfb a2 0 (Yb .i64 (((a1.1.length):Int)-1))) fun v7=>bif !v7 then Ya (Zal 8) fun v8=>some (v8.1,v8.2.1,v8.2.2.1,v8.2.2.2) else Ya (Z2f k a1 a2 a3) fun v9=>some (v9.1,v9.2,[],0)
def Zoq.con (k:Nat):Con:=Sig.con { ps:=[.val true T26 (ros T26),.val false (.int .i64) (ros (.int .i64)),.val false .str (ros .str)],rs:=[.val true [.own 9 .str,.own 195 Zp,.v .str,.v (.int .i64)]],ntmps:=33 } (fun x=>Zoq k x.1 x.2.1 x.2.2)
theorem Zoq.ok (k:Nat):Zf Yc 101 (Zoq.con k):=fA (cXr true false (cC (Zfb.ok k) (cC (Zal.ok k) (cC (Z1.ok k) (cC (Z2f.ok k) cN))))) Tryz.func101
def Zff.l0 (k:Nat):Nat→List Zlc→Int→Str→Int→List Str→List Zq→Option ((Str×Int×List Str×List Zq))
 | 0,_,_,_,_,_,_=>none
 | j+1,a1,a2,a3,a4,a5,a6=>bif (decide (a2<((a1.length):Int)))&&(a4==0) then Ya (at? a1 a2) fun v7=>let e8:=Yb .i64 (a2+1);bif v7.1 then Ya (Znq k (a5,a6)) fun v9=>Zff.l0 k j a1 e8 v9.2.2.1 v9.2.2.2 v9.1 v9.2.1 else Ya (at? a1 a2) fun v10=>Ya (at? a1 a2) fun v11=>Ya (Zoq k (a5,a6) v10.2.1 v11.2.2) fun v12=>Zff.l0 k j a1 e8 v12.2.2.1 v12.2.2.2 v12.1 v12.2.1 else some (a3,a4,a5,a6)
def Zff (k:Nat) (a1:G26) (a2:List Zlc):Option (List Str×List Zq×Str×Int):=Ya (Z9k a1) fun v3=>Ya (Zff.l0 k k a2 0 [] 0 v3.1 v3.2) fun y4=>bif y4.2.1 != 0 then Ya (Zal y4.2.1) fun v5=>some (v5.1,v5.2.1,v5.2.2.1,v5.2.2.2) else some (y4.2.2.1,y4.2.2.2,y4.1,y4.2.1)
def Zff.con (k:Nat):Con:=Sig.con { ps:=[.val true T26 (ros T26),.val false (.sl Z6b) (ros (.sl Z6b))],rs:=[.val true [.own 9 .str,.own 195 Zp,.v .str,.v (.int .i64)]],ntmps:=49 } (fun x=>Zff k x.1 x.2)
def Zff.cok (k:Nat):=cXr true false (cC (Z9k.ok k) (cC (Znq.ok k) (cC (Zoq.ok k) (cC (Zal.ok k) cN))))
def Zff.l0.s (k:Nat):Summ:=lp 49 { tmps:=[(1,.one (.bor Z6b)),(5,.one (.ptr 3 0)),(6,.one (.v (.int .i64)))],slots:=[(3,.box 109 [.own 4,.own 5,.v .str,.v (.int .i64)]),(4,.arr false 9 .str),(5,.arr false 195 Zp)],nb:=6 } [(.exit 0,{ tmps:=[],slots:=[(3,.box 109 [.own 6,.own 7,.v .str,.v (.int .i64)]),(6,.arr false 9 .str),(7,.arr false 195 Zp)],nb:=8 })] (fun j x=>Zff.l0 k j x.1 x.2.1 x.2.2.1 x.2.2.2.1 x.2.2.2.2.1 x.2.2.2.2.2) k
def Zff.l0.ok (k:Nat):=(lA (Zff.cok k):Zj Yc _ (.loop (cO (cO (cR (cL (cR (cR (cB Tryz.f53)))))))) (Zff.l0.s k))
theorem Zff.ok (k:Nat):Zf Yc 53 (Zff.con k):=fP (.two .auto (.two .auto (.two (.two .auto (.one (.sum (Zff.l0.s k)))) .auto))) (Zff.cok k) Tryz.func53 (sC (Zff.l0.ok k) sN)
def Ztc.l0:Nat→List Str→Int→Option (Unit ⊕ Bool)
 | 0,_,_=>none
 | j+1,a1,a2=>bif decide (a2<((a1.length):Int)) then Ya (at? a1 a2) fun v3=>bif ((v3.length):Int) != 8 then some (.inr false) else Ztc.l0 j a1 (Yb .i64 (a2+1)) else some (.inl ())
def Ztc (k:Nat) (a1:List Str):Option (Bool):=bif (decide (((a1.length):Int)<1))||(decide (8<((a1.length):Int))) then some false else Ya (Ztc.l0 k a1 0) fun
  | .inl y2=>some true
  | .inr y3=>some y3
def Ztc.con (k:Nat):Con:=Sig.con { ps:=[.val false (.sl .str) (ros (.sl .str))],rs:=[.val false [.v .bool]],ntmps:=24 } (fun x=>Ztc k x)
def Ztc.cok (k:Nat):=cX cN
def Ztc.l0.s (k:Nat):Summ:=lp 24 { tmps:=[(0,.one (.bor .str)),(3,.one (.v (.int .i64)))],slots:=[],nb:=0 } [(.exit 0,{ tmps:=[],slots:=[],nb:=0 }),(.ret,{ tmps:=[(2,.one (.v .bool))],slots:=[],nb:=0 })] (fun j x=>Ztc.l0 j x.1 x.2) k
def Ztc.l0.ok (k:Nat):=(lA (Ztc.cok k):Zj Yc _ (.loop (cO (cO (cR (cL (cR (cR (cB Tryz.f47)))))))) (Ztc.l0.s k))
theorem Ztc.ok (k:Nat):Zf Yc 47 (Ztc.con k):=fP (.two .auto (.two .auto (.two (.two .auto (.one (.sum (Ztc.l0.s k)))) .auto))) (Ztc.cok k) Tryz.func47 (sC (Ztc.l0.ok k) sN)
def Zsq (a1:Int):Option (Int):=bif decide (a1<0) then some (Yb .u64 ((Yb .u64 (2*(Yb .u64 (Yb .i64 (0-(Yb .i64 (a1+1)))))))+1)) else some (Yb .u64 (2*(Yb .u64 a1)))
def Zsq.con (k:Nat):Con:=Sig.con { ps:=[.val false (.int .i64) (ros (.int .i64))],rs:=[.val false [.v (.int .u64)]],ntmps:=14 } (fun x=>Zsq x)
theorem Zsq.ok (k:Nat):Zf Yc 193 (Zsq.con k):=fA (cX cN) Tryz.func193
def Z8b.l0:Nat→Int→List Int→Option ((Int×List Int))
 | 0,_,_=>none
 | j+1,a1,a2=>bif decide (128≤a1) then Ya (nz? 128) fun v3=>Ya (Zs 1 a2 [(Yb .u8 (Yb .u64 ((Yf a1 128)+128)))]) fun v4=>Ya (nz? 128) fun v5=>Z8b.l0 j (Yb .u64 (Yi a1 128)) v4 else some (a1,a2)
def Z8b (k:Nat) (a1:Int):Option (Str):=Ya (Zsq a1) fun v2=>Ya (Z8b.l0 k v2 []) fun y3=>Ya (Zs 1 y3.2 [(Yb .u8 y3.1)]) fun v4=>some (Znb v4)
def Z8b.con (k:Nat):Con:=Sig.con { ps:=[.val false (.int .i64) (ros (.int .i64))],rs:=[.val false [.v .str]],ntmps:=25 } (fun x=>Z8b k x)
def Z8b.cok (k:Nat):=cX (cC (Zsq.ok k) cN)
def Z8b.l0.s (k:Nat):Summ:=lp 25 { tmps:=[(3,.one (.v (.int .u64))),(4,.one (.own 1))],slots:=[(1,.arr false 5 (.int .u8))],nb:=2 } [(.exit 0,{ tmps:=[(3,.one (.v (.int .u64))),(4,.one (.own 2))],slots:=[(2,.arr false 5 (.int .u8))],nb:=3 })] (fun j x=>Z8b.l0 j x.1 x.2) k
def Z8b.l0.ok (k:Nat):=(lA (Z8b.cok k):Zj Yc _ (.loop (cO (cO (cL (cR (cR (cR (cB Tryz.f105)))))))) (Z8b.l0.s k))
theorem Z8b.ok (k:Nat):Zf Yc 105 (Z8b.con k):=fP (.two .auto (.two .auto (.two .auto (.two (.one (.sum (Z8b.l0.s k))) .auto)))) (Z8b.cok k) Tryz.func105 (sC (Z8b.l0.ok k) sN)
def Zzi (k:Nat) (a1:Str):Option (Str):=bif decide (8000<((a1.length):Int)) then some ([]) else Ya (Z8b k ((a1.length):Int)) fun v2=>Ya (Zqc v2 a1) fun v3=>some v3
def Zzi.con (k:Nat):Con:=Sig.con { ps:=[.val false .str (ros .str)],rs:=[.val false [.v .str]],ntmps:=11 } (fun x=>Zzi k x)
theorem Zzi.ok (k:Nat):Zf Yc 107 (Zzi.con k):=fA (cX (cC (Z8b.ok k) cN)) Tryz.func107
def Z9m (a1:Int):Option (Str):=Ya (Zwb 8) fun v2=>Ya (Zwb 16) fun v3=>Ya (Zwb 24) fun v4=>some (Znb [(Yb .u8 a1),(Yb .u8 (shr .i64 a1 8)),(Yb .u8 (shr .i64 a1 16)),(Yb .u8 (shr .i64 a1 24))])
def Z9m.con (k:Nat):Con:=Sig.con { ps:=[.val false (.int .i64) (ros (.int .i64))],rs:=[.val false [.v .str]],ntmps:=16 } (fun x=>Z9m x)
theorem Z9m.ok (k:Nat):Zf Yc 259 (Z9m.con k):=fA (cX cN) Tryz.func259
def Z9b.l0:Nat→Int→Int→Option (Int)
 | 0,_,_=>none
 | j+1,a1,a2=>bif decide (a2<8) then let e3:=Yb .i64 (a2+1);bif (intBits .and .u32 a1 1)==1 then Ya (Zwb 1) fun v4=>Z9b.l0 j (intBits .xor .u32 (shr .u32 a1 1) 3988292384) e3 else Ya (Zwb 1) fun v5=>Z9b.l0 j (shr .u32 a1 1) e3 else some a1
def Z9b.l1 (k:Nat):Nat→Str→Int→Int→Option (Int)
 | 0,_,_,_=>none
 | j+1,a1,a2,a3=>bif decide (a3<((a1.length):Int)) then Ya (at? a1 a3) fun v4=>Ya (Z9b.l0 k (intBits .xor .u32 a2 (Yb .u32 (v4.toNat:Int))) 0) fun y5=>Z9b.l1 k j a1 y5 (Yb .i64 (a3+1)) else some a2
def Z9b (k:Nat) (a1:Int) (a2:Str):Option (Int):=Ya (Z9b.l1 k k a2 (intBits .xor .u32 (Yb .u32 a1) 4294967295) 0) fun y3=>some (Yb .i64 (intBits .xor .u32 y3 4294967295))
def Z9b.con (k:Nat):Con:=Sig.con { ps:=[.val false (.int .i64) (ros (.int .i64)),.val false .str (ros .str)],rs:=[.val false [.v (.int .i64)]],ntmps:=38 } (fun x=>Z9b k x.1 x.2)
def Z9b.cok (k:Nat):=cX cN
def Z9b.l0.s (k:Nat):Summ:=lp 38 { tmps:=[(5,.one (.v (.int .u32))),(7,.one (.v (.int .i64)))],slots:=[],nb:=0 } [(.exit 2,{ tmps:=[(5,.one (.v (.int .u32)))],slots:=[],nb:=0 })] (fun j x=>Z9b.l0 j x.1 x.2) k
def Z9b.l0.ok (k:Nat):=(lA (Z9b.cok k):Zj Yc _ (.loop (cO (cO (cR (cR (cO (cL (cR (cO (cO (cR (cL (cR (cR (cB Yl))))))))))))))) (Z9b.l0.s k))
def Z9b.l1.s (k:Nat):Summ:=lp 38 { tmps:=[(1,.one (.v .str)),(5,.one (.v (.int .u32))),(6,.one (.v (.int .i64)))],slots:=[],nb:=0 } [(.exit 0,{ tmps:=[(5,.one (.v (.int .u32)))],slots:=[],nb:=0 })] (fun j x=>Z9b.l1 k j x.1 x.2.1 x.2.2) k
def Z9b.l1.ok (k:Nat):=(lP (.two .auto (.two (.one (.two .auto (.two .auto (.one (.sum (Z9b.l0.s k)))))) .auto)) (Z9b.cok k) (sC (Z9b.l0.ok k) sN):Zj Yc _ (.loop (cO (cO (cR (cL (cR (cR (cB Yl)))))))) (Z9b.l1.s k))
theorem Z9b.ok (k:Nat):Zf Yc 260 (Z9b.con k):=fP (.two .auto (.two .auto (.two (.two .auto (.one (.sum (Z9b.l1.s k)))) .auto))) (Z9b.cok k) Tryz.func260 (sC (Z9b.l1.ok k) sN)
def Z7k (k:Nat) (a1:Str):Option (Str):=bif decide (7996<((a1.length):Int)) then some ([]) else Ya (Z9b k 0 a1) fun v2=>Ya (Z9m v2) fun v3=>Ya (Zqc a1 v3) fun v4=>some v4
def Z7k.con (k:Nat):Con:=Sig.con { ps:=[.val false .str (ros .str)],rs:=[.val false [.v .str]],ntmps:=11 } (fun x=>Z7k k x)
theorem Z7k.ok (k:Nat):Zf Yc 192 (Z7k.con k):=fA (cX (cC (Z9m.ok k) (cC (Z9b.ok k) cN))) Tryz.func192
def Zjk (k:Nat) (a1:Int) (a2:Str):Option (Str):=Ya (Zfb a1 1 1000000) fun v3=>bif (!v3)||(decide (80<((a2.length):Int))) then some ([]) else Ya (Z8b k a1) fun v4=>Ya (Zzi k a2) fun v5=>Ya (Zqc v4 v5) fun v6=>Ya (Z7k k v6) fun v7=>some v7
def Zjk.con (k:Nat):Con:=Sig.con { ps:=[.val false (.int .i64) (ros (.int .i64)),.val false .str (ros .str)],rs:=[.val false [.v .str]],ntmps:=19 } (fun x=>Zjk k x.1 x.2)
theorem Zjk.ok (k:Nat):Zf Yc 104 (Zjk.con k):=fA (cX (cC (Zfb.ok k) (cC (Z8b.ok k) (cC (Zzi.ok k) (cC (Z7k.ok k) cN))))) Tryz.func104
def Z8k (k:Nat) (a1:Str):Option (Str×Int×Int):=bif decide (8000<((a1.length):Int)) then some ([],0,2) else bif decide (((a1.length):Int)<4) then some ([],0,4) else let e2:=Yb .i64 (((a1.length):Int)-4);Ya (Zob a1 0 e2) fun v3=>Ya (Z9b k 0 v3) fun v4=>Ya (Z9m v4) fun v5=>Ya (Zob a1 e2 ((a1.length):Int)) fun v6=>bif !(v5==v6) then some ([],0,5) else some (v3,0,0)
def Z8k.con (k:Nat):Con:=Sig.con { ps:=[.val false .str (ros .str)],rs:=[.val true [.v .str,.v (.int .i64),.v (.int .i64)]],ntmps:=29 } (fun x=>Z8k k x)
theorem Z8k.ok (k:Nat):Zf Yc 256 (Z8k.con k):=fA (cX (cC (Z9m.ok k) (cC (Z9b.ok k) cN))) Tryz.func256
def Zld.l0:Nat→Str→Int→Int→Int→Int→Int→Int→Option ((Int×Int×Int) ⊕ (Int×Int×Int))
 | 0,_,_,_,_,_,_,_=>none
 | j+1,a1,a2,a3,a4,a5,a6,a7=>bif decide (a4<10) then bif decide ((Yb .i64 (((a1.length):Int)-a4))≤a2) then some (.inr (0,0,4)) else let e8:=Yb .i64 (a2+a4);Ya (at? a1 e8) fun v9=>bif (a4==9)&&(decide (1<(Yb .u64 (v9.toNat:Int)))) then some (.inr (0,0,3)) else Ya (nz? 128) fun v10=>let e11:=Yb .u64 (Yb .i64 (7*a4));Ya (Zwb e11) fun v12=>let e13:=Yb .u64 (a3+(shl .u64 (Yf (Yb .u64 (v9.toNat:Int)) 128) e11));bif decide ((Yb .u64 (v9.toNat:Int))<128) then bif ((Yb .u64 (v9.toNat:Int))==0)&&(decide (0<a4)) then some (.inr (0,0,3)) else Ya (nz? 2) fun v14=>Ya (nz? 2) fun v15=>let e16:=Yb .i64 (e8+1);let e17:=Yb .i64 (Yb .u64 (Yi e13 2));bif (Yf e13 2)==1 then some (.inr (Yb .i64 ((Yb .i64 (0-e17))-1),e16,0)) else some (.inr (e17,e16,0)) else Zld.l0 j a1 a2 e13 (Yb .i64 (a4+1)) a5 a6 a7 else some (.inl (a5,a6,a7))
def Zld (k:Nat) (a1:Str) (a2:Int):Option (Int×Int×Int):=bif decide (8000<((a1.length):Int)) then some (0,0,2) else bif decide (a2<0) then some (0,0,1) else Ya (Zld.l0 k a1 a2 0 0 0 0 0) fun
  | .inl y3=>some (0,0,3)
  | .inr y4=>some (y4.1,y4.2.1,y4.2.2)
def Zld.con (k:Nat):Con:=Sig.con { ps:=[.val false .str (ros .str),.val false (.int .i64) (ros (.int .i64))],rs:=[.val true [.v (.int .i64),.v (.int .i64),.v (.int .i64)]],ntmps:=73 } (fun x=>Zld k x.1 x.2)
def Zld.cok (k:Nat):=cX cN
def Zld.l0.s (k:Nat):Summ:=lp 73 { tmps:=[(0,.one (.v .str)),(1,.one (.v (.int .i64))),(4,.one (.ptr 0 0)),(5,.one (.v (.int .u64))),(6,.one (.v (.int .i64)))],slots:=[(0,.box 272 [.v (.int .i64),.v (.int .i64),.v (.int .i64)])],nb:=1 } [(.exit 0,{ tmps:=[],slots:=[(0,.box 272 [.v (.int .i64),.v (.int .i64),.v (.int .i64)])],nb:=1 }),(.ret,{ tmps:=[],slots:=[(0,.box 272 [.v (.int .i64),.v (.int .i64),.v (.int .i64)])],nb:=1 })] (fun j x=>Zld.l0 j x.1 x.2.1 x.2.2.1 x.2.2.2.1 x.2.2.2.2.1 x.2.2.2.2.2.1 x.2.2.2.2.2.2) k
def Zld.l0.ok (k:Nat):=(lA (Zld.cok k):Zj Yc _ (.loop (cO (cO (cR (cL (cR (cR (cR (cR (cB Tryz.f257)))))))))) (Zld.l0.s k))
theorem Zld.ok (k:Nat):Zf Yc 257 (Zld.con k):=fP (.two .auto (.two .auto (.two .auto (.two .auto (.two (.two .auto (.one (.sum (Zld.l0.s k)))) .auto))))) (Zld.cok k) Tryz.func257 (sC (Zld.l0.ok k) sN)
def Zzl (k:Nat) (a1:Str) (a2:Int):Option (Str×Int×Int):=Ya (Zld k a1 a2) fun v3=>bif v3.2.2 != 0 then some ([],0,v3.2.2) else bif (decide (v3.1<0))||(decide (8000<v3.1)) then some ([],0,3) else bif decide ((Yb .i64 (((a1.length):Int)-v3.1))<v3.2.1) then some ([],0,4) else let e4:=Yb .i64 (v3.2.1+v3.1);Ya (Zob a1 v3.2.1 e4) fun v5=>some (v5,e4,0)
def Zzl.con (k:Nat):Con:=Sig.con { ps:=[.val false .str (ros .str),.val false (.int .i64) (ros (.int .i64))],rs:=[.val true [.v .str,.v (.int .i64),.v (.int .i64)]],ntmps:=48 } (fun x=>Zzl k x.1 x.2)
theorem Zzl.ok (k:Nat):Zf Yc 258 (Zzl.con k):=fA (cX (cC (Zld.ok k) cN)) Tryz.func258
def Z4k (k:Nat) (a1:Str):Option (Int×Str×Int):=Ya (Z8k k a1) fun v2=>bif v2.2.2 != 0 then some (0,[],v2.2.2) else Ya (Zld k v2.1 0) fun v3=>Ya (Zzl k v2.1 v3.2.1) fun v4=>bif (v3.2.2 != 0)||(v4.2.2 != 0) then some (0,[],3) else Ya (Zjk k v3.1 v4.1) fun v5=>bif !(v5==a1) then some (0,[],3) else some (v3.1,v4.1,0)
def Z4k.con (k:Nat):Con:=Sig.con { ps:=[.val false .str (ros .str)],rs:=[.val true [.v (.int .i64),.v .str,.v (.int .i64)]],ntmps:=45 } (fun x=>Z4k k x)
theorem Z4k.ok (k:Nat):Zf Yc 190 (Z4k.con k):=fA (cX (cC (Zjk.ok k) (cC (Z8k.ok k) (cC (Zld.ok k) (cC (Zzl.ok k) cN))))) Tryz.func190
def Ztb.l0:Nat→Int→List Str→List Zq→Int→Option (Unit ⊕ Str)
 | 0,_,_,_,_=>none
 | j+1,a1,a2,a3,a4=>bif decide (a4<((a3.length):Int)) then Ya (at? a3 a4) fun v5=>bif v5.1==a1 then Ya (at? a3 a4) fun v6=>some (.inr (v6.2)) else Ztb.l0 j a1 a2 a3 (Yb .i64 (a4+1)) else some (.inl ())
def Ztb (k:Nat) (a1:G26) (a2:Int):Option (Str):=Ya (Ztb.l0 k a2 a1.1 a1.2 0) fun
  | .inl y3=>Ya (at? a1.1 a2) fun v4=>some v4
  | .inr y5=>some y5
def Ztb.con (k:Nat):Con:=Sig.con { ps:=[.val true T26 (ros T26),.val false (.int .i64) (ros (.int .i64))],rs:=[.val false [.v .str]],ntmps:=32 } (fun x=>Ztb k x.1 x.2)
def Ztb.cok (k:Nat):=cXr true false cN
def Ztb.l0.s (k:Nat):Summ:=lp 32 { tmps:=[(1,.one (.v (.int .i64))),(2,.eptr [.bor .str,.bor Zp]),(5,.one (.v (.int .i64)))],slots:=[],nb:=0 } [(.exit 0,{ tmps:=[],slots:=[],nb:=0 }),(.ret,{ tmps:=[(4,.one (.v .str))],slots:=[],nb:=0 })] (fun j x=>Ztb.l0 j x.1 x.2.1 x.2.2.1 x.2.2.2) k
def Ztb.l0.ok (k:Nat):=(lA (Ztb.cok k):Zj Yc _ (.loop (cO (cO (cR (cL (cR (cB Tryz.f191))))))) (Ztb.l0.s k))
theorem Ztb.ok (k:Nat):Zf Yc 191 (Ztb.con k):=fP (.two .auto (.two (.two .auto (.one (.sum (Ztb.l0.s k)))) .auto)) (Ztb.cok k) Tryz.func191 (sC (Ztb.l0.ok k) sN)
def Zbl (k:Nat) (a1:G26):Option (Int×Str×Int×Int):=Ya (Ztb k a1 0) fun v2=>Ya (Z4k k v2) fun v3=>Ya (Ztb k a1 1) fun v4=>Ya (Z4k k v4) fun v5=>bif (v3.2.2==0)&&((v5.2.2 != 0)||(decide (v5.1≤v3.1))) then some (v3.1,v3.2.1,v3.2.2,0) else bif v5.2.2==0 then some (v5.1,v5.2.1,v5.2.2,1) else some (0,[],6,(-1))
def Zbl.con (k:Nat):Con:=Sig.con { ps:=[.val true T26 (ros T26)],rs:=[.val true [.v (.int .i64),.v .str,.v (.int .i64)],.val false [.v (.int .i64)]],ntmps:=35 } (fun x=>Zbl k x)
theorem Zbl.ok (k:Nat):Zf Yc 103 (Zbl.con k):=fA (cXr true false (cC (Z4k.ok k) (cC (Ztb.ok k) cN))) Tryz.func103
def Zfd.l0:Nat→Int→Int→List Int→Option ((List Int))
 | 0,_,_,_=>none
 | j+1,a1,a2,a3=>bif decide (a2<24) then Ya (Zwb a2) fun v4=>let e5:=Yb .i64 (a2+1);bif (intBits .and .i64 (shr .i64 a1 a2) 1)==1 then Ya (Zs 8 a3 [a2]) fun v6=>Zfd.l0 j a1 e5 v6 else Zfd.l0 j a1 e5 a3 else some a3
def Zfd (k:Nat) (a1:Int):Option (List Int):=bif (decide (a1<0))||(decide (16777216≤a1)) then some ([]) else Ya (Zfd.l0 k a1 0 []) fun y2=>some y2
def Zfd.con (k:Nat):Con:=Sig.con { ps:=[.val false (.int .i64) (ros (.int .i64))],rs:=[.val false [.own 2 (.int .i64)]],ntmps:=27 } (fun x=>Zfd k x)
def Zfd.cok (k:Nat):=cX cN
def Zfd.l0.s (k:Nat):Summ:=lp 27 { tmps:=[(0,.one (.v (.int .i64))),(3,.one (.own 1)),(4,.one (.v (.int .i64)))],slots:=[(1,.arr false 2 (.int .i64))],nb:=2 } [(.exit 0,{ tmps:=[(3,.one (.own 2))],slots:=[(2,.arr false 2 (.int .i64))],nb:=3 })] (fun j x=>Zfd.l0 j x.1 x.2.1 x.2.2) k
def Zfd.l0.ok (k:Nat):=(lA (Zfd.cok k):Zj Yc _ (.loop (cO (cO (cR (cL (cR (cR (cR (cB Tryz.f238))))))))) (Zfd.l0.s k))
theorem Zfd.ok (k:Nat):Zf Yc 238 (Zfd.con k):=fP (.two .auto (.two .auto (.two .auto (.two (.two .auto (.one (.sum (Zfd.l0.s k)))) .auto)))) (Zfd.cok k) Tryz.func238 (sC (Zfd.l0.ok k) sN)
def Zdc (k:Nat) (a1:Zyu):Option (Int×Str×Int×Bool):=Ya (Zld k a1.1 a1.2.1) fun v2=>bif a1.2.2||(v2.2.2 != 0) then some (0,a1.1,a1.2.1,true) else some (v2.1,a1.1,v2.2.1,a1.2.2)
def Zdc.con (k:Nat):Con:=Sig.con { ps:=[.ref 289 Zpk (Zzg Zpk)],rs:=[.val false [.v (.int .i64)]],ntmps:=32 } (fun x=>Zdc k x)
theorem Zdc.ok (k:Nat):Zf Yc 272 (Zdc.con k):=fA (cX (cC (Zld.ok k) cN)) Tryz.func272
def Zwh (k:Nat) (a1:Zyu):Option (Str×Str×Int×Bool):=Ya (Zzl k a1.1 a1.2.1) fun v2=>bif a1.2.2||(v2.2.2 != 0) then some ([],a1.1,a1.2.1,true) else some (v2.1,a1.1,v2.2.1,a1.2.2)
def Zwh.con (k:Nat):Con:=Sig.con { ps:=[.ref 289 Zpk (Zzg Zpk)],rs:=[.val false [.v .str]],ntmps:=32 } (fun x=>Zwh k x)
theorem Zwh.ok (k:Nat):Zf Yc 273 (Zwh.con k):=fA (cX (cC (Zzl.ok k) cN)) Tryz.func273
def Z6d.l0:Nat→List Int→Int→Option (Unit ⊕ Bool)
 | 0,_,_=>none
 | j+1,a1,a2=>bif decide (a2<((a1.length):Int)) then Ya (at? a1 a2) fun v3=>Ya (Zfb v3 0 23) fun v4=>bif !v4 then some (.inr false) else let e5:=Yb .i64 (a2+1);bif decide (0<a2) then Ya (at? a1 (Yb .i64 (a2-1))) fun v6=>Ya (at? a1 a2) fun v7=>bif decide (v7≤v6) then some (.inr false) else Z6d.l0 j a1 e5 else Z6d.l0 j a1 e5 else some (.inl ())
def Z6d (k:Nat) (a1:List Int):Option (Bool):=bif decide (24<((a1.length):Int)) then some false else Ya (Z6d.l0 k a1 0) fun
  | .inl y2=>some true
  | .inr y3=>some y3
def Z6d.con (k:Nat):Con:=Sig.con { ps:=[.val false (.sl (.int .i64)) (ros (.sl (.int .i64)))],rs:=[.val false [.v .bool]],ntmps:=35 } (fun x=>Z6d k x)
def Z6d.cok (k:Nat):=cX (cC (Zfb.ok k) cN)
def Z6d.l0.s (k:Nat):Summ:=lp 35 { tmps:=[(0,.one (.bor (.int .i64))),(3,.one (.v (.int .i64)))],slots:=[],nb:=0 } [(.exit 0,{ tmps:=[],slots:=[],nb:=0 }),(.ret,{ tmps:=[(2,.one (.v .bool))],slots:=[],nb:=0 })] (fun j x=>Z6d.l0 j x.1 x.2) k
def Z6d.l0.ok (k:Nat):=(lA (Z6d.cok k):Zj Yc _ (.loop (cO (cO (cR (cL (cR (cR (cB Tryz.f194)))))))) (Z6d.l0.s k))
theorem Z6d.ok (k:Nat):Zf Yc 194 (Z6d.con k):=fP (.two .auto (.two .auto (.two (.two .auto (.one (.sum (Z6d.l0.s k)))) .auto))) (Z6d.cok k) Tryz.func194 (sC (Z6d.l0.ok k) sN)
def Zud.l0:Nat→List Int→Int→Int→Option (Int)
 | 0,_,_,_=>none
 | j+1,a1,a2,a3=>bif decide (a3<((a1.length):Int)) then Ya (at? a1 a3) fun v4=>Ya (Zwb v4) fun v5=>Zud.l0 j a1 (Yb .i64 (a2+(shl .i64 1 v4))) (Yb .i64 (a3+1)) else some a2
def Zud (k:Nat) (a1:List Int):Option (Int):=Ya (Z6d k a1) fun v2=>bif !v2 then some (-1) else Ya (Zud.l0 k a1 0 0) fun y3=>some y3
def Zud.con (k:Nat):Con:=Sig.con { ps:=[.val false (.sl (.int .i64)) (ros (.sl (.int .i64)))],rs:=[.val false [.v (.int .i64)]],ntmps:=22 } (fun x=>Zud k x)
def Zud.cok (k:Nat):=cX (cC (Z6d.ok k) cN)
def Zud.l0.s (k:Nat):Summ:=lp 22 { tmps:=[(0,.one (.bor (.int .i64))),(3,.one (.v (.int .i64))),(4,.one (.v (.int .i64)))],slots:=[],nb:=0 } [(.exit 0,{ tmps:=[(3,.one (.v (.int .i64)))],slots:=[],nb:=0 })] (fun j x=>Zud.l0 j x.1 x.2.1 x.2.2) k
def Zud.l0.ok (k:Nat):=(lA (Zud.cok k):Zj Yc _ (.loop (cO (cO (cR (cL (cR (cR (cR (cB Tryz.f106))))))))) (Zud.l0.s k))
theorem Zud.ok (k:Nat):Zf Yc 106 (Zud.con k):=fP (.two .auto (.two .auto (.two .auto (.two (.two .auto (.one (.sum (Zud.l0.s k)))) .auto)))) (Zud.cok k) Tryz.func106 (sC (Zud.l0.ok k) sN)
def Z3l (k:Nat) (a1:G46):Option (Str):=Ya (Z8b k a1.1) fun v2=>Ya (Z8b k a1.2.1) fun v3=>Ya (Zqc v2 v3) fun v4=>Ya (Z8b k a1.2.2.1) fun v5=>Ya (Zqc v4 v5) fun v6=>Ya (Z8b k a1.2.2.2.1) fun v7=>Ya (Zqc v6 v7) fun v8=>Ya (Z8b k a1.2.2.2.2.1) fun v9=>Ya (Zqc v8 v9) fun v10=>Ya (Zud k a1.2.2.2.2.2.2.1) fun v11=>Ya (Z8b k v11) fun v12=>Ya (Zqc v10 v12) fun v13=>Ya (Zud k a1.2.2.2.2.2.2.2) fun v14=>Ya (Z8b k v14) fun v15=>Ya (Zqc v13 v15) fun v16=>Ya (Zzi k a1.2.2.2.2.2.1) fun v17=>Ya (Zqc v16 v17) fun v18=>some v18
def Z3l.con (k:Nat):Con:=Sig.con { ps:=[.val true T46 (ros T46)],rs:=[.val false [.v .str]],ntmps:=36 } (fun x=>Z3l k x)
theorem Z3l.ok (k:Nat):Zf Yc 55 (Z3l.con k):=fA (cXr true false (cC (Z8b.ok k) (cC (Zud.ok k) (cC (Zzi.ok k) cN)))) Tryz.func55
def Zad.l0:Nat→List Int→Int→Int→Option (Unit ⊕ Bool)
 | 0,_,_,_=>none
 | j+1,a1,a2,a3=>bif decide (a3<((a1.length):Int)) then Ya (at? a1 a3) fun v4=>bif v4==a2 then some (.inr true) else Zad.l0 j a1 a2 (Yb .i64 (a3+1)) else some (.inl ())
def Zad (k:Nat) (a1:List Int) (a2:Int):Option (Bool):=Ya (Zad.l0 k a1 a2 0) fun
  | .inl y3=>some false
  | .inr y4=>some y4
def Zad.con (k:Nat):Con:=Sig.con { ps:=[.val false (.sl (.int .i64)) (ros (.sl (.int .i64))),.val false (.int .i64) (ros (.int .i64))],rs:=[.val false [.v .bool]],ntmps:=18 } (fun x=>Zad k x.1 x.2)
def Zad.cok (k:Nat):=cX cN
def Zad.l0.s (k:Nat):Summ:=lp 18 { tmps:=[(0,.one (.bor (.int .i64))),(1,.one (.v (.int .i64))),(5,.one (.v (.int .i64)))],slots:=[],nb:=0 } [(.exit 0,{ tmps:=[],slots:=[],nb:=0 }),(.ret,{ tmps:=[(4,.one (.v .bool))],slots:=[],nb:=0 })] (fun j x=>Zad.l0 j x.1 x.2.1 x.2.2) k
def Zad.l0.ok (k:Nat):=(lA (Zad.cok k):Zj Yc _ (.loop (cO (cO (cR (cL (cR (cB Tryz.f306))))))) (Zad.l0.s k))
theorem Zad.ok (k:Nat):Zf Yc 306 (Zad.con k):=fP (.two .auto (.two (.two .auto (.one (.sum (Zad.l0.s k)))) .auto)) (Zad.cok k) Tryz.func306 (sC (Zad.l0.ok k) sN)
def Zef.l0 (k:Nat):Nat→Int→Int→Int→Int→Int→Str→List Int→List Int→Int→Option (Unit ⊕ Bool)
 | 0,_,_,_,_,_,_,_,_,_=>none
 | j+1,a1,a2,a3,a4,a5,a6,a7,a8,a9=>bif decide (a9<((a8.length):Int)) then Ya (at? a8 a9) fun v10=>Ya (Zad k a7 v10) fun v11=>bif v11 then some (.inr false) else Zef.l0 k j a1 a2 a3 a4 a5 a6 a7 a8 (Yb .i64 (a9+1)) else some (.inl ())
def Zef (k:Nat) (a1:G46):Option (Bool):=Ya (Zfb a1.1 1 5) fun v2=>bif !v2 then some false else Ya (Z6d k a1.2.2.2.2.2.2.1) fun v3=>bif !v3 then some false else Ya (Z6d k a1.2.2.2.2.2.2.2) fun v4=>bif !v4 then some false else Ya (Zef.l0 k k a1.1 a1.2.1 a1.2.2.1 a1.2.2.2.1 a1.2.2.2.2.1 a1.2.2.2.2.2.1 a1.2.2.2.2.2.2.1 a1.2.2.2.2.2.2.2 0) fun
  | .inl y5=>let e6:=a1.2.1==0;let e7:=a1.2.2.2.2.1==0;let e8:=((a1.2.2.2.2.2.2.2.length):Int);bif a1.1==1 then some (((((e6&&(a1.2.2.1==0))&&(a1.2.2.2.1==0))&&e7)&&(a1.2.2.2.2.2.1==[]))&&(e8==0)) else Ya (Zfb a1.2.2.1 1 20) fun v9=>bif !v9 then some false else Ya (Zfb a1.2.2.2.1 0 4) fun v10=>bif ((!v10)||(e8 != (Yb .i64 (a1.2.2.1+a1.2.2.2.1))))||(((a1.2.2.2.2.2.1.length):Int) != 32) then some false else Ya (Zfb a1.2.1 0 2) fun v11=>bif v11 then Ya (Zfb a1.2.2.2.2.1 0 40) fun v12=>some ((v12&&(e6||(a1.1==4)))&&(e7||(a1.1==5))) else some false
  | .inr y13=>some y13
def Zef.con (k:Nat):Con:=Sig.con { ps:=[.val true T46 (ros T46)],rs:=[.val false [.v .bool]],ntmps:=122 } (fun x=>Zef k x)
def Zef.cok (k:Nat):=cXr true false (cC (Zfb.ok k) (cC (Z6d.ok k) (cC (Zad.ok k) cN)))
def Zef.l0.s (k:Nat):Summ:=lp 122 { tmps:=[(1,.eptr [.v (.int .i64),.v (.int .i64),.v (.int .i64),.v (.int .i64),.v (.int .i64),.v .str,.bor (.int .i64),.bor (.int .i64)]),(3,.one (.v (.int .i64)))],slots:=[],nb:=0 } [(.exit 0,{ tmps:=[],slots:=[],nb:=0 }),(.ret,{ tmps:=[(2,.one (.v .bool))],slots:=[],nb:=0 })] (fun j x=>Zef.l0 k j x.1 x.2.1 x.2.2.1 x.2.2.2.1 x.2.2.2.2.1 x.2.2.2.2.2.1 x.2.2.2.2.2.2.1 x.2.2.2.2.2.2.2.1 x.2.2.2.2.2.2.2.2) k
def Zef.l0.ok (k:Nat):=(lA (Zef.cok k):Zj Yc _ (.loop (cO (cO (cR (cL (cR (cR (cB Tryz.f300)))))))) (Zef.l0.s k))
theorem Zef.ok (k:Nat):Zf Yc 300 (Zef.con k):=fP (.two .auto (.two .auto (.two (.two .auto (.one (.sum (Zef.l0.s k)))) .auto))) (Zef.cok k) Tryz.func300 (sC (Zef.l0.ok k) sN)
def Zpq (k:Nat) (a1:G46):Option (Str):=Ya (Zef k a1) fun v2=>bif !v2 then some ([]) else Ya (Z3l k a1) fun v3=>some v3
def Zpq.con (k:Nat):Con:=Sig.con { ps:=[.val true T46 (ros T46)],rs:=[.val false [.v .str]],ntmps:=8 } (fun x=>Zpq k x)
theorem Zpq.ok (k:Nat):Zf Yc 274 (Zpq.con k):=fA (cXr true false (cC (Z3l.ok k) (cC (Zef.ok k) cN))) Tryz.func274
def Zco (k:Nat) (a1:Str):Option (Int×Int×Int×Int×Int×Str×List Int×List Int×Int):=bif decide (8000<((a1.length):Int)) then some (0,0,0,0,0,[],[],[],2) else Ya (Zdc k (a1,(0,false))) fun v2=>Ya (Zdc k v2.2) fun v3=>Ya (Zdc k v3.2) fun v4=>Ya (Zdc k v4.2) fun v5=>Ya (Zdc k v5.2) fun v6=>Ya (Zdc k v6.2) fun v7=>Ya (Zfd k v7.1) fun v8=>Ya (Zdc k v7.2) fun v9=>Ya (Zfd k v9.1) fun v10=>Ya (Zwh k v9.2) fun v11=>bif v11.2.2.2 then some (0,0,0,0,0,[],[],[],3) else Ya (Zpq k (v2.1,(v3.1,(v4.1,(v5.1,(v6.1,(v11.1,(v8,v10)))))))) fun v12=>bif !(v12==a1) then some (0,0,0,0,0,[],[],[],3) else some (v2.1,v3.1,v4.1,v5.1,v6.1,v11.1,v8,v10,0)
def Zco.con (k:Nat):Con:=Sig.con { ps:=[.val false .str (ros .str)],rs:=[.val true [.v (.int .i64),.v (.int .i64),.v (.int .i64),.v (.int .i64),.v (.int .i64),.v .str,.own 2 (.int .i64),.own 2 (.int .i64),.v (.int .i64)]],ntmps:=51 } (fun x=>Zco k x)
theorem Zco.ok (k:Nat):Zf Yc 227 (Zco.con k):=fA (cX (cC (Zfd.ok k) (cC (Zdc.ok k) (cC (Zwh.ok k) (cC (Zpq.ok k) cN))))) Tryz.func227
def Z0i (k:Nat) (a1:G28):Option (Int×Int×Int×Int×Int×Str×List Int×List Int×Bool):=Ya (Zfb a1.1 1 8) fun v2=>bif !v2 then some (0,0,0,0,0,[],[],[],false) else Ya (Z1 k a1.2) fun v3=>bif (!v3)||(((a1.2.1.length):Int) != (Yb .i64 ((Yb .i64 (3+a1.1))+24))) then some (0,0,0,0,0,[],[],[],false) else Ya (Zbl k a1.2) fun v4=>bif v4.2.2.1 != 0 then some (0,0,0,0,0,[],[],[],false) else Ya (Zco k v4.2.1) fun v5=>some (v5.1,v5.2.1,v5.2.2.1,v5.2.2.2.1,v5.2.2.2.2.1,v5.2.2.2.2.2.1,v5.2.2.2.2.2.2.1,v5.2.2.2.2.2.2.2.1,v5.2.2.2.2.2.2.2.2==0)
def Z0i.con (k:Nat):Con:=Sig.con { ps:=[.val true T28 (ros T28)],rs:=[.val true [.v (.int .i64),.v (.int .i64),.v (.int .i64),.v (.int .i64),.v (.int .i64),.v .str,.own 2 (.int .i64),.own 2 (.int .i64)],.val false [.v .bool]],ntmps:=47 } (fun x=>Z0i k x)
theorem Z0i.ok (k:Nat):Zf Yc 152 (Z0i.con k):=fA (cXr true false (cC (Zfb.ok k) (cC (Zbl.ok k) (cC (Z1.ok k) (cC (Zco.ok k) cN))))) Tryz.func152
def Z8d.l0 (k:Nat):Nat→Int→List Str→List Zq→Int→List Str→Option ((List Str))
 | 0,_,_,_,_,_=>none
 | j+1,a1,a2,a3,a4,a5=>bif decide (a4<a1) then Ya (Ztb k (a2,a3) (Yb .i64 (3+a4))) fun v6=>Ya (Zs 16 a5 [v6]) fun v7=>Z8d.l0 k j a1 a2 a3 (Yb .i64 (a4+1)) v7 else some a5
def Z8d (k:Nat) (a1:G28):Option (List Str):=Ya (Z8d.l0 k k a1.1 a1.2.1 a1.2.2 0 []) fun y2=>some y2
def Z8d.con (k:Nat):Con:=Sig.con { ps:=[.val true T28 (ros T28)],rs:=[.val false [.own 9 .str]],ntmps:=21 } (fun x=>Z8d k x)
def Z8d.cok (k:Nat):=cXr true false (cC (Ztb.ok k) cN)
def Z8d.l0.s (k:Nat):Summ:=lp 21 { tmps:=[(1,.eptr [.v (.int .i64),.bor .str,.bor Zp]),(3,.one (.own 1)),(4,.one (.v (.int .i64)))],slots:=[(1,.arr false 9 .str)],nb:=2 } [(.exit 0,{ tmps:=[(3,.one (.own 2))],slots:=[(2,.arr false 9 .str)],nb:=3 })] (fun j x=>Z8d.l0 k j x.1 x.2.1 x.2.2.1 x.2.2.2.1 x.2.2.2.2) k
def Z8d.l0.ok (k:Nat):=(lA (Z8d.cok k):Zj Yc _ (.loop (cO (cO (cR (cL (cR (cR (cB Tryz.f163)))))))) (Z8d.l0.s k))
theorem Z8d.ok (k:Nat):Zf Yc 163 (Z8d.con k):=fP (.two .auto (.two .auto (.two (.two .auto (.one (.sum (Z8d.l0.s k)))) .auto))) (Z8d.cok k) Tryz.func163 (sC (Z8d.l0.ok k) sN)
def Zle.l0:Nat→List Zcd→Int→Int→Option (Int)
 | 0,_,_,_=>none
 | j+1,a1,a2,a3=>bif (decide (a3<((a1.length):Int)))&&(decide (((a1.length):Int)≤40)) then Ya (at? a1 a3) fun v4=>let e5:=Yb .i64 (a3+1);bif v4.1==1 then Zle.l0 j a1 (Yb .i64 (a2+1)) e5 else Zle.l0 j a1 a2 e5 else some a2
def Zle (k:Nat) (a1:List Zcd):Option (Int):=Ya (Zle.l0 k a1 0 0) fun y2=>some y2
def Zle.con (k:Nat):Con:=Sig.con { ps:=[.val false (.sl Z5b) (ros (.sl Z5b))],rs:=[.val false [.v (.int .i64)]],ntmps:=25 } (fun x=>Zle k x)
def Zle.cok (k:Nat):=cX cN
def Zle.l0.s (k:Nat):Summ:=lp 25 { tmps:=[(0,.one (.bor Z5b)),(3,.one (.v (.int .i64))),(4,.one (.v (.int .i64)))],slots:=[],nb:=0 } [(.exit 0,{ tmps:=[(3,.one (.v (.int .i64)))],slots:=[],nb:=0 })] (fun j x=>Zle.l0 j x.1 x.2.1 x.2.2) k
def Zle.l0.ok (k:Nat):=(lA (Zle.cok k):Zj Yc _ (.loop (cO (cO (cR (cL (cR (cR (cB Tryz.f44)))))))) (Zle.l0.s k))
theorem Zle.ok (k:Nat):Zf Yc 44 (Zle.con k):=fP (.two .auto (.two .auto (.two (.two .auto (.one (.sum (Zle.l0.s k)))) .auto))) (Zle.cok k) Tryz.func44 (sC (Zle.l0.ok k) sN)
def Z7h (a1:G52) (a2:Int):Option (Bool):=Ya (Zfb a2 1 8) fun v3=>bif !v3 then some false else let e4:=Yb .i64 (a2-1);Ya (Zfb a1.2.1 0 e4) fun v5=>Ya (Zfb a1.2.2.1 0 e4) fun v6=>let e7:=a1.2.2.2==[];let e8:=v5&&(a1.2.2.1==0);bif a1.1==1 then some (e8&&e7) else let e9:=((a1.2.2.2.length):Int)==8;bif a1.1==2 then some (e8&&e9) else bif a1.1==3 then some ((v5&&v6)&&e7) else bif a1.1==4 then some ((v5&&v6)&&e9) else bif a1.1==5 then bif a1.2.1==0 then Ya (Zfb a1.2.2.1 0 1000000) fun v10=>some (v10&&e7) else some false else some false
def Z7h.con (k:Nat):Con:=Sig.con { ps:=[.val true T52 (ros T52),.val false (.int .i64) (ros (.int .i64))],rs:=[.val false [.v .bool]],ntmps:=87 } (fun x=>Z7h x.1 x.2)
theorem Z7h.ok (k:Nat):Zf Yc 177 (Z7h.con k):=fA (cX (cC (Zfb.ok k) cN)) Tryz.func177
def Zt.l0:Nat→List G52→Int→Int→Option (Unit ⊕ Int)
 | 0,_,_,_=>none
 | j+1,a1,a2,a3=>bif decide (a3<((a1.length):Int)) then Ya (at? a1 a3) fun v4=>Ya (Z7h v4 a2) fun v5=>bif !v5 then some (.inr 1) else Zt.l0 j a1 a2 (Yb .i64 (a3+1)) else some (.inl ())
def Zt.l1:Nat→List G52→Int→Int→Option (Unit ⊕ Int)
 | 0,_,_,_=>none
 | j+1,a1,a2,a3=>bif decide (a3<a2) then Ya (at? a1 a2) fun v4=>let e5:=Yb .i64 (a3+1);bif v4.1 != 5 then Ya (at? a1 a3) fun v6=>bif v6.1 != 5 then Ya (at? a1 a2) fun v7=>Ya (at? a1 a3) fun v8=>bif v7.2.1==v8.2.1 then some (.inr 12) else Zt.l1 j a1 a2 e5 else Zt.l1 j a1 a2 e5 else Zt.l1 j a1 a2 e5 else some (.inl ())
def Zt.l2 (k:Nat):Nat→List G52→Int→Option (Unit ⊕ Int)
 | 0,_,_=>none
 | j+1,a1,a2=>bif decide (a2<((a1.length):Int)) then Ya (Zt.l1 k a1 a2 0) fun
    | .inl y3=>Zt.l2 k j a1 (Yb .i64 (a2+1))
    | .inr y4=>some (.inr y4) else some (.inl ())
def Zt.l3:Nat→List G52→Int→Int→Option (Unit ⊕ Int)
 | 0,_,_,_=>none
 | j+1,a1,a2,a3=>bif decide (a3<((a1.length):Int)) then Ya (at? a1 a3) fun v4=>let e5:=Yb .i64 (a3+1);bif v4.1 != 5 then Zt.l3 j a1 a2 e5 else Ya (at? a1 a3) fun v6=>bif decide (v6.2.2.1≤a2) then some (.inr 8) else Ya (at? a1 a3) fun v7=>Zt.l3 j a1 v7.2.2.1 e5 else some (.inl ())
def Zt (k:Nat) (a1:List G52) (a2:Int):Option (Int):=bif decide (20<((a1.length):Int)) then some 1 else Ya (Zfb a2 1 8) fun v3=>bif !v3 then some 1 else Ya (Zt.l0 k a1 a2 0) fun
  | .inl y4=>Ya (Zt.l2 k k a1 0) fun
    | .inl y5=>Ya (Zt.l3 k a1 (-1) 0) fun
      | .inl y6=>some 0
      | .inr y7=>some y7
    | .inr y8=>some y8
  | .inr y9=>some y9
def Zt.con (k:Nat):Con:=Sig.con { ps:=[.val false (.sl T52) (ros (.sl T52)),.val false (.int .i64) (ros (.int .i64))],rs:=[.val false [.v (.int .i64)]],ntmps:=93 } (fun x=>Zt k x.1 x.2)
def Zt.cok (k:Nat):=cX (cC (Zfb.ok k) (cC (Z7h.ok k) cN))
def Zt.l0.s (k:Nat):Summ:=lp 93 { tmps:=[(0,.one (.bor T52)),(1,.one (.v (.int .i64))),(5,.one (.v (.int .i64)))],slots:=[],nb:=0 } [(.exit 0,{ tmps:=[],slots:=[],nb:=0 }),(.ret,{ tmps:=[(4,.one (.v (.int .i64)))],slots:=[],nb:=0 })] (fun j x=>Zt.l0 j x.1 x.2.1 x.2.2) k
def Zt.l0.ok (k:Nat):=(lA (Zt.cok k):Zj Yc _ (.loop (cO (cO (cR (cL (cR (cR (cB Yh)))))))) (Zt.l0.s k))
def Zt.l1.s (k:Nat):Summ:=lp 93 { tmps:=[(0,.one (.bor T52)),(6,.one (.v (.int .i64))),(7,.one (.v (.int .i64)))],slots:=[],nb:=0 } [(.exit 4,{ tmps:=[],slots:=[],nb:=0 }),(.ret,{ tmps:=[(4,.one (.v (.int .i64)))],slots:=[],nb:=0 })] (fun j x=>Zt.l1 j x.1 x.2.1 x.2.2) k
def Zt.l1.ok (k:Nat):=(lA (Zt.cok k):Zj Yc _ (.loop (cO (cO (cR (cO (cL (cR (cO (cO (cR (cL (cR (cR (cR (cB Yh))))))))))))))) (Zt.l1.s k))
def Zt.l2.s (k:Nat):Summ:=lp 93 { tmps:=[(0,.one (.bor T52)),(6,.one (.v (.int .i64)))],slots:=[],nb:=0 } [(.exit 2,{ tmps:=[],slots:=[],nb:=0 }),(.ret,{ tmps:=[(4,.one (.v (.int .i64)))],slots:=[],nb:=0 })] (fun j x=>Zt.l2 k j x.1 x.2) k
def Zt.l2.ok (k:Nat):=(lP (.two .auto (.two (.one (.two .auto (.one (.sum (Zt.l1.s k))))) .auto)) (Zt.cok k) (sC (Zt.l1.ok k) sN):Zj Yc _ (.loop (cO (cO (cR (cL (cR (cR (cR (cB Yh))))))))) (Zt.l2.s k))
def Zt.l3.s (k:Nat):Summ:=lp 93 { tmps:=[(0,.one (.bor T52)),(8,.one (.v (.int .i64))),(9,.one (.v (.int .i64)))],slots:=[],nb:=0 } [(.exit 6,{ tmps:=[],slots:=[],nb:=0 }),(.ret,{ tmps:=[(4,.one (.v (.int .i64)))],slots:=[],nb:=0 })] (fun j x=>Zt.l3 j x.1 x.2.1 x.2.2) k
def Zt.l3.ok (k:Nat):=(lA (Zt.cok k):Zj Yc _ (.loop (cO (cO (cR (cL (cR (cR (cR (cR (cR (cB Yh))))))))))) (Zt.l3.s k))
theorem Zt.ok (k:Nat):Zf Yc 87 (Zt.con k):=fP (.two .auto (.two .auto (.two (.two .auto (.one (.sum (Zt.l0.s k)))) (.two (.two .auto (.one (.sum (Zt.l2.s k)))) (.two .auto (.two (.two .auto (.one (.sum (Zt.l3.s k)))) .auto)))))) (Zt.cok k) Tryz.func87 (sC (Zt.l0.ok k) (sC (Zt.l2.ok k) (sC (Zt.l3.ok k) sN)))
def Z9c.l0:Nat→List G52→Int→List G52→Option ((List G52))
 | 0,_,_,_=>none
 | j+1,a1,a2,a3=>bif (decide (a2<((a1.length):Int)))&&(decide (((a1.length):Int)≤20)) then Ya (at? a1 a2) fun v4=>let e5:=Yb .i64 (a2+1);bif v4.1 != 5 then Ya (at? a1 a2) fun v6=>Ya (Zs 40 a3 [v6]) fun v7=>Z9c.l0 j a1 e5 v7 else Z9c.l0 j a1 e5 a3 else some a3
def Z9c (k:Nat) (a1:List G52):Option (List G52):=Ya (Z9c.l0 k a1 0 []) fun y2=>some y2
def Z9c.con (k:Nat):Con:=Sig.con { ps:=[.val false (.sl T52) (ros (.sl T52))],rs:=[.val false [.own 52 T52]],ntmps:=31 } (fun x=>Z9c k x)
def Z9c.cok (k:Nat):=cX cN
def Z9c.l0.s (k:Nat):Summ:=lp 31 { tmps:=[(0,.one (.bor T52)),(3,.one (.own 1)),(4,.one (.v (.int .i64)))],slots:=[(1,.arr false 52 T52)],nb:=2 } [(.exit 0,{ tmps:=[(3,.one (.own 2))],slots:=[(2,.arr false 52 T52)],nb:=3 })] (fun j x=>Z9c.l0 j x.1 x.2.1 x.2.2) k
def Z9c.l0.ok (k:Nat):=(lA (Z9c.cok k):Zj Yc _ (.loop (cO (cO (cR (cL (cR (cR (cB Tryz.f178)))))))) (Z9c.l0.s k))
theorem Z9c.ok (k:Nat):Zf Yc 178 (Z9c.con k):=fP (.two .auto (.two .auto (.two (.two .auto (.one (.sum (Z9c.l0.s k)))) .auto))) (Z9c.cok k) Tryz.func178 (sC (Z9c.l0.ok k) sN)
def Zos (a1:G52) (a2:Int):Option (Bool):=some (((a1.1==3)||(a1.1==4))&&(a1.2.2.1==a2))
def Zos.con (k:Nat):Con:=Sig.con { ps:=[.val true T52 (ros T52),.val false (.int .i64) (ros (.int .i64))],rs:=[.val false [.v .bool]],ntmps:=19 } (fun x=>Zos x.1 x.2)
theorem Zos.ok (k:Nat):Zf Yc 289 (Zos.con k):=fA (cX cN) Tryz.func289
def Z5c.l0:Nat→List G52→List Bool→Int→Int→Option (Unit ⊕ Bool)
 | 0,_,_,_,_=>none
 | j+1,a1,a2,a3,a4=>bif decide (a4<((a1.length):Int)) then let e5:=Yb .i64 (a4+1);bif a4 != a3 then Ya (at? a2 a4) fun v6=>bif v6 then Ya (at? a1 a4) fun v7=>Ya (at? a1 a3) fun v8=>Ya (Zos v7 v8.2.1) fun v9=>bif v9 then some (.inr true) else Z5c.l0 j a1 a2 a3 e5 else Z5c.l0 j a1 a2 a3 e5 else Z5c.l0 j a1 a2 a3 e5 else some (.inl ())
def Z5c (k:Nat) (a1:List G52) (a2:List Bool) (a3:List Bool) (a4:Int):Option (Bool):=Ya (at? a1 a4) fun v5=>Ya (at? a3 v5.2.1) fun v6=>bif v6 then some false else Ya (Z5c.l0 k a1 a2 a4 0) fun
  | .inl y7=>some false
  | .inr y8=>some y8
def Z5c.con (k:Nat):Con:=Sig.con { ps:=[.val false (.sl T52) (ros (.sl T52)),.val false (.sl .bool) (ros (.sl .bool)),.val false (.sl .bool) (ros (.sl .bool)),.val false (.int .i64) (ros (.int .i64))],rs:=[.val false [.v .bool]],ntmps:=45 } (fun x=>Z5c k x.1 x.2.1 x.2.2.1 x.2.2.2)
def Z5c.cok (k:Nat):=cX (cC (Zos.ok k) cN)
def Z5c.l0.s (k:Nat):Summ:=lp 45 { tmps:=[(0,.one (.bor T52)),(1,.one (.bor .bool)),(3,.one (.v (.int .i64))),(9,.one (.v (.int .i64)))],slots:=[],nb:=0 } [(.exit 0,{ tmps:=[],slots:=[],nb:=0 }),(.ret,{ tmps:=[(8,.one (.v .bool))],slots:=[],nb:=0 })] (fun j x=>Z5c.l0 j x.1 x.2.1 x.2.2.1 x.2.2.2) k
def Z5c.l0.ok (k:Nat):=(lA (Z5c.cok k):Zj Yc _ (.loop (cO (cO (cR (cL (cR (cR (cB Tryz.f251)))))))) (Z5c.l0.s k))
theorem Z5c.ok (k:Nat):Zf Yc 251 (Z5c.con k):=fP (.two .auto (.two .auto (.two (.two .auto (.one (.sum (Z5c.l0.s k)))) .auto))) (Z5c.cok k) Tryz.func251 (sC (Z5c.l0.ok k) sN)
def Zmd.l0 (k:Nat):Nat→List G52→List Bool→List Bool→Int→Int→Int→Option ((Int×Int))
 | 0,_,_,_,_,_,_=>none
 | j+1,a1,a2,a3,a4,a5,a6=>bif decide (a6<((a1.length):Int)) then Ya (at? a2 a6) fun v7=>let e8:=Yb .i64 (a6+1);bif !v7 then Zmd.l0 k j a1 a2 a3 a4 a5 e8 else bif decide (a5<0) then bif decide (a4<0) then Ya (Z5c k a1 a2 a3 a6) fun v9=>bif !v9 then Zmd.l0 k j a1 a2 a3 a6 a6 e8 else Zmd.l0 k j a1 a2 a3 a4 a6 e8 else Zmd.l0 k j a1 a2 a3 a4 a6 e8 else bif decide (a4<0) then Ya (Z5c k a1 a2 a3 a6) fun v10=>bif !v10 then Zmd.l0 k j a1 a2 a3 a6 a5 e8 else Zmd.l0 k j a1 a2 a3 a4 a5 e8 else Zmd.l0 k j a1 a2 a3 a4 a5 e8 else some (a4,a5)
def Zmd (k:Nat) (a1:List G52) (a2:List Bool) (a3:List Bool):Option (Int×Int):=Ya (Zmd.l0 k k a1 a2 a3 (-1) (-1) 0) fun y4=>some (y4.1,y4.2)
def Zmd.con (k:Nat):Con:=Sig.con { ps:=[.val false (.sl T52) (ros (.sl T52)),.val false (.sl .bool) (ros (.sl .bool)),.val false (.sl .bool) (ros (.sl .bool))],rs:=[.val false [.v (.int .i64)],.val false [.v (.int .i64)]],ntmps:=38 } (fun x=>Zmd k x.1 x.2.1 x.2.2)
def Zmd.cok (k:Nat):=cX (cC (Z5c.ok k) cN)
def Zmd.l0.s (k:Nat):Summ:=lp 38 { tmps:=[(0,.one (.bor T52)),(1,.one (.bor .bool)),(2,.one (.bor .bool)),(8,.one (.v (.int .i64))),(9,.one (.v (.int .i64))),(10,.one (.v (.int .i64)))],slots:=[],nb:=0 } [(.exit 0,{ tmps:=[(8,.one (.v (.int .i64))),(9,.one (.v (.int .i64)))],slots:=[],nb:=0 })] (fun j x=>Zmd.l0 k j x.1 x.2.1 x.2.2.1 x.2.2.2.1 x.2.2.2.2.1 x.2.2.2.2.2) k
def Zmd.l0.ok (k:Nat):=(lA (Zmd.cok k):Zj Yc _ (.loop (cO (cO (cR (cL (cR (cR (cB Tryz.f179)))))))) (Zmd.l0.s k))
theorem Zmd.ok (k:Nat):Zf Yc 179 (Zmd.con k):=fP (.two .auto (.two .auto (.two (.two .auto (.one (.sum (Zmd.l0.s k)))) .auto))) (Zmd.cok k) Tryz.func179 (sC (Zmd.l0.ok k) sN)
def Z1b.l0:Nat→Int→List G52→List Bool→Option ((List G52×List Bool))
 | 0,_,_,_=>none
 | j+1,a1,a2,a3=>bif decide (a1<((a2.length):Int)) then Ya (at? a3 a1) fun v4=>Ya (at? a3 a1) fun v5=>Z1b.l0 j (Yb .i64 (a1+1)) a2 (Ye a3 (Yd a1) true) else some (a2,a3)
def Z1b.l1 (k:Nat):Nat→Int→List G52→List Bool→List Bool→List Zcd→Option ((List Zcd))
 | 0,_,_,_,_,_=>none
 | j+1,a1,a2,a3,a4,a5=>Ya (Zmd k a2 a3 a4) fun v6=>bif decide (v6.2<0) then some a5 else bif decide (0≤v6.1) then let e7:=at? a2 v6.1;Ya (e7) fun v8=>Ya (e7) fun v9=>Ya (Zs 32 a5 [(2,(v6.1,(v9.2.1,0)))]) fun v10=>let e11:=at? a3 v6.1;Ya (e11) fun v12=>Ya (e11) fun v13=>Z1b.l1 k j a1 a2 (Ye a3 (Yd v6.1) false) a4 v10 else let e14:=at? a2 v6.2;Ya (e14) fun v15=>Ya (e14) fun v16=>Ya (Zs 32 a5 [(1,(v6.2,(v16.2.1,a1)))]) fun v17=>Ya (e14) fun v18=>Ya (e14) fun v19=>let e20:=at? a4 v19.2.1;Ya (e20) fun v21=>Ya (e20) fun v22=>Z1b.l1 k j (Yb .i64 (a1+1)) a2 a3 (Ye a4 (Yd v19.2.1) true) v17
def Z1b (k:Nat) (a1:List G52):Option (List Zcd):=Ya (Z9c k a1) fun v2=>Ya (Ztg 1 ((v2.length):Int) ((v2.length):Int) false) fun v3=>Ya (Z1b.l0 k 0 v2 v3) fun y4=>Ya (Ztg 1 8 8 false) fun v5=>Ya (Z1b.l1 k k 0 y4.1 y4.2 v5 []) fun y6=>some y6
def Z1b.con (k:Nat):Con:=Sig.con { ps:=[.val false (.sl T52) (ros (.sl T52))],rs:=[.val false [.own 139 Z5b]],ntmps:=74 } (fun x=>Z1b k x)
def Z1b.cok (k:Nat):=cX (cC (Z9c.ok k) (cC (Zmd.ok k) cN))
def Z1b.l0.s (k:Nat):Summ:=lp 74 { tmps:=[(3,.one (.own 2)),(4,.one (.own 3)),(5,.one (.v (.int .i64)))],slots:=[(2,.arr false 52 T52),(3,.arr false 4 .bool)],nb:=4 } [(.exit 0,{ tmps:=[(3,.one (.own 4)),(4,.one (.own 5))],slots:=[(4,.arr false 52 T52),(5,.arr false 4 .bool)],nb:=6 })] (fun j x=>Z1b.l0 j x.1 x.2.1 x.2.2) k
def Z1b.l0.ok (k:Nat):=(lA (Z1b.cok k):Zj Yc _ (.loop (cO (cO (cR (cL (cR (cR (cR (cB Ym))))))))) (Z1b.l0.s k))
def Z1b.l1.s (k:Nat):Summ:=lp 74 { tmps:=[(3,.one (.own 8)),(4,.one (.own 9)),(6,.one (.own 10)),(7,.one (.own 11)),(8,.one (.v (.int .i64)))],slots:=[(8,.arr false 52 T52),(9,.arr false 4 .bool),(10,.arr false 4 .bool),(11,.arr false 139 Z5b)],nb:=12 } [(.ret,{ tmps:=[(2,.one (.own 12))],slots:=[(12,.arr false 139 Z5b)],nb:=13 })] (fun j x=>Z1b.l1 k j x.1 x.2.1 x.2.2.1 x.2.2.2.1 x.2.2.2.2) k
def Z1b.l1.ok (k:Nat):=(lA (Z1b.cok k):Zj Yc _ (.loop (cO (cO (cR (cR (cR (cR (cR (cR (cR (cB Ym))))))))))) (Z1b.l1.s k))
theorem Z1b.ok (k:Nat):Zf Yc 88 (Z1b.con k):=fP (.two .auto (.two .auto (.two .auto (.two (.two .auto (.one (.sum (Z1b.l0.s k)))) (.two .auto (.two .auto (.two .auto (.one (.sum (Z1b.l1.s k)))))))))) (Z1b.cok k) Tryz.func88 (sC (Z1b.l0.ok k) (sC (Z1b.l1.ok k) sN))
def Zqj (k:Nat) (a1:List G52) (a2:Int):Option (List Zcd×Int):=bif decide (400<((a1.length):Int)) then some ([],2) else Ya (Zt k a1 a2) fun v3=>bif v3 != 0 then some ([],v3) else Ya (Z1b k a1) fun v4=>some (v4,0)
def Zqj.con (k:Nat):Con:=Sig.con { ps:=[.val false (.sl T52) (ros (.sl T52)),.val false (.int .i64) (ros (.int .i64))],rs:=[.val true [.own 139 Z5b,.v (.int .i64)]],ntmps:=20 } (fun x=>Zqj k x.1 x.2)
theorem Zqj.ok (k:Nat):Zf Yc 45 (Zqj.con k):=fA (cX (cC (Zt.ok k) (cC (Z1b.ok k) cN))) Tryz.func45
def Z5g (a1:G28) (a2:Int):Option (Int):=some (Yb .i64 ((Yb .i64 (3+a1.1))+a2))
def Z5g.con (k:Nat):Con:=Sig.con { ps:=[.val true T28 (ros T28),.val false (.int .i64) (ros (.int .i64))],rs:=[.val false [.v (.int .i64)]],ntmps:=10 } (fun x=>Z5g x.1 x.2)
theorem Z5g.ok (k:Nat):Zf Yc 275 (Z5g.con k):=fA (cXr true false cN) Tryz.func275
def Z2l (k:Nat) (a1:G52):Option (Str):=Ya (Z8b k a1.1) fun v2=>Ya (Z8b k a1.2.1) fun v3=>Ya (Zqc v2 v3) fun v4=>Ya (Z8b k a1.2.2.1) fun v5=>Ya (Zqc v4 v5) fun v6=>Ya (Zzi k a1.2.2.2) fun v7=>Ya (Zqc v6 v7) fun v8=>some v8
def Z2l.con (k:Nat):Con:=Sig.con { ps:=[.val true T52 (ros T52)],rs:=[.val false [.v .str]],ntmps:=18 } (fun x=>Z2l k x)
theorem Z2l.ok (k:Nat):Zf Yc 301 (Z2l.con k):=fA (cX (cC (Z8b.ok k) (cC (Zzi.ok k) cN))) Tryz.func301
def Z5k (k:Nat) (a1:Int) (a2:G52):Option (Str):=Ya (Zfb a1 0 1000000) fun v3=>bif !v3 then some ([]) else Ya (Z7h a2 8) fun v4=>bif !v4 then some ([]) else Ya (Z8b k a1) fun v5=>Ya (Z2l k a2) fun v6=>Ya (Zqc v5 v6) fun v7=>Ya (Z7k k v7) fun v8=>some v8
def Z5k.con (k:Nat):Con:=Sig.con { ps:=[.val false (.int .i64) (ros (.int .i64)),.val true T52 (ros T52)],rs:=[.val false [.v .str]],ntmps:=19 } (fun x=>Z5k k x.1 x.2)
theorem Z5k.ok (k:Nat):Zf Yc 276 (Z5k.con k):=fA (cX (cC (Zfb.ok k) (cC (Z8b.ok k) (cC (Z7h.ok k) (cC (Z7k.ok k) (cC (Z2l.ok k) cN)))))) Tryz.func276
def Zqq (k:Nat) (a1:G52):Option (Str):=Ya (Z7h a1 8) fun v2=>bif !v2 then some ([]) else Ya (Z2l k a1) fun v3=>some v3
def Zqq.con (k:Nat):Con:=Sig.con { ps:=[.val true T52 (ros T52)],rs:=[.val false [.v .str]],ntmps:=8 } (fun x=>Zqq k x)
theorem Zqq.ok (k:Nat):Zf Yc 324 (Zqq.con k):=fA (cX (cC (Z7h.ok k) (cC (Z2l.ok k) cN))) Tryz.func324
def Z1l (k:Nat) (a1:Str):Option (Int×Int×Int×Str×Int):=bif decide (8000<((a1.length):Int)) then some (0,0,0,[],2) else Ya (Zdc k (a1,(0,false))) fun v2=>Ya (Zdc k v2.2) fun v3=>Ya (Zdc k v3.2) fun v4=>Ya (Zwh k v4.2) fun v5=>bif v5.2.2.2 then some (0,0,0,[],3) else Ya (Zqq k (v2.1,(v3.1,(v4.1,v5.1)))) fun v6=>bif !(v6==a1) then some (0,0,0,[],3) else some (v2.1,v3.1,v4.1,v5.1,0)
def Z1l.con (k:Nat):Con:=Sig.con { ps:=[.val false .str (ros .str)],rs:=[.val true [.v (.int .i64),.v (.int .i64),.v (.int .i64),.v .str,.v (.int .i64)]],ntmps:=37 } (fun x=>Z1l k x)
theorem Z1l.ok (k:Nat):Zf Yc 317 (Z1l.con k):=fA (cX (cC (Zdc.ok k) (cC (Zwh.ok k) (cC (Zqq.ok k) cN)))) Tryz.func317
def Z6k (k:Nat) (a1:Str) (a2:Int):Option (Int×Int×Int×Str×Int):=Ya (Z8k k a1) fun v3=>bif v3.2.2 != 0 then some (0,0,0,[],v3.2.2) else Ya (Zdc k (v3.1,(0,false))) fun v4=>Ya (Zob v3.1 v4.2.2.1 ((v3.1.length):Int)) fun v5=>Ya (Z1l k v5) fun v6=>bif v4.2.2.2||(v6.2.2.2.2 != 0) then some (0,0,0,[],3) else Ya (Z5k k v4.1 (v6.1,(v6.2.1,(v6.2.2.1,v6.2.2.2.1)))) fun v7=>bif !(v7==a1) then some (0,0,0,[],3) else bif v4.1 != a2 then some (0,0,0,[],6) else some (v6.1,v6.2.1,v6.2.2.1,v6.2.2.2.1,v6.2.2.2.2)
def Z6k.con (k:Nat):Con:=Sig.con { ps:=[.val false .str (ros .str),.val false (.int .i64) (ros (.int .i64))],rs:=[.val true [.v (.int .i64),.v (.int .i64),.v (.int .i64),.v .str,.v (.int .i64)]],ntmps:=54 } (fun x=>Z6k k x.1 x.2)
theorem Z6k.ok (k:Nat):Zf Yc 307 (Z6k.con k):=fA (cX (cC (Z8k.ok k) (cC (Zdc.ok k) (cC (Z5k.ok k) (cC (Z1l.ok k) cN))))) Tryz.func307
def Z3f.l0 (k:Nat):Nat→List Str→Int→List G52→Option ((List G52))
 | 0,_,_,_=>none
 | j+1,a1,a2,a3=>bif decide (a2<((a1.length):Int)) then Ya (at? a1 a2) fun v4=>Ya (Z6k k v4 a2) fun v5=>bif v5.2.2.2.2 != 0 then some a3 else Ya (Zs 40 a3 [(v5.1,(v5.2.1,(v5.2.2.1,v5.2.2.2.1)))]) fun v6=>Z3f.l0 k j a1 (Yb .i64 (a2+1)) v6 else some a3
def Z3f (k:Nat) (a1:List Str):Option (List G52):=Ya (Z3f.l0 k k a1 0 []) fun y2=>some y2
def Z3f.con (k:Nat):Con:=Sig.con { ps:=[.val false (.sl .str) (ros (.sl .str))],rs:=[.val false [.own 52 T52]],ntmps:=28 } (fun x=>Z3f k x)
def Z3f.cok (k:Nat):=cX (cC (Z6k.ok k) cN)
def Z3f.l0.s (k:Nat):Summ:=lp 28 { tmps:=[(0,.one (.bor .str)),(3,.one (.own 1)),(4,.one (.v (.int .i64)))],slots:=[(1,.arr false 52 T52)],nb:=2 } [(.exit 0,{ tmps:=[(3,.one (.own 2))],slots:=[(2,.arr false 52 T52)],nb:=3 })] (fun j x=>Z3f.l0 k j x.1 x.2.1 x.2.2) k
def Z3f.l0.ok (k:Nat):=(lA (Z3f.cok k):Zj Yc _ (.loop (cO (cO (cR (cL (cR (cR (cB Tryz.f288)))))))) (Z3f.l0.s k))
theorem Z3f.ok (k:Nat):Zf Yc 288 (Z3f.con k):=fP (.two .auto (.two .auto (.two (.two .auto (.one (.sum (Z3f.l0.s k)))) .auto))) (Z3f.cok k) Tryz.func288 (sC (Z3f.l0.ok k) sN)
def Zjc.l0 (k:Nat):Nat→Int→List Str→List Zq→Int→Int→Int→Int→Int→Str→List Int→List Int→Int→List Str→Option ((List Str))
 | 0,_,_,_,_,_,_,_,_,_,_,_,_,_=>none
 | j+1,a1,a2,a3,a4,a5,a6,a7,a8,a9,a10,a11,a12,a13=>bif decide (a12<((a11.length):Int)) then Ya (at? a11 a12) fun v14=>Ya (Z5g (a1,(a2,a3)) v14) fun v15=>Ya (Ztb k (a2,a3) v15) fun v16=>Ya (Zs 16 a13 [v16]) fun v17=>Zjc.l0 k j a1 a2 a3 a4 a5 a6 a7 a8 a9 a10 a11 (Yb .i64 (a12+1)) v17 else some a13
def Zjc (k:Nat) (a1:G28) (a2:G46):Option (List G52):=Ya (Zjc.l0 k k a1.1 a1.2.1 a1.2.2 a2.1 a2.2.1 a2.2.2.1 a2.2.2.2.1 a2.2.2.2.2.1 a2.2.2.2.2.2.1 a2.2.2.2.2.2.2.1 a2.2.2.2.2.2.2.2 a2.2.2.2.1 []) fun y3=>Ya (Z3f k y3) fun v4=>some v4
def Zjc.con (k:Nat):Con:=Sig.con { ps:=[.val true T28 (ros T28),.val true T46 (ros T46)],rs:=[.val false [.own 52 T52]],ntmps:=32 } (fun x=>Zjc k x.1 x.2)
def Zjc.cok (k:Nat):=cXr true false (cC (Ztb.ok k) (cC (Z5g.ok k) (cC (Z3f.ok k) cN)))
def Zjc.l0.s (k:Nat):Summ:=lp 32 { tmps:=[(2,.eptr [.v (.int .i64),.bor .str,.bor Zp]),(3,.eptr [.v (.int .i64),.v (.int .i64),.v (.int .i64),.v (.int .i64),.v (.int .i64),.v .str,.bor (.int .i64),.bor (.int .i64)]),(5,.one (.own 1)),(6,.one (.v (.int .i64)))],slots:=[(1,.arr false 9 .str)],nb:=2 } [(.exit 0,{ tmps:=[(5,.one (.own 2))],slots:=[(2,.arr false 9 .str)],nb:=3 })] (fun j x=>Zjc.l0 k j x.1 x.2.1 x.2.2.1 x.2.2.2.1 x.2.2.2.2.1 x.2.2.2.2.2.1 x.2.2.2.2.2.2.1 x.2.2.2.2.2.2.2.1 x.2.2.2.2.2.2.2.2.1 x.2.2.2.2.2.2.2.2.2.1 x.2.2.2.2.2.2.2.2.2.2.1 x.2.2.2.2.2.2.2.2.2.2.2.1 x.2.2.2.2.2.2.2.2.2.2.2.2) k
def Zjc.l0.ok (k:Nat):=(lA (Zjc.cok k):Zj Yc _ (.loop (cO (cO (cR (cL (cR (cR (cB Tryz.f245)))))))) (Zjc.l0.s k))
theorem Zjc.ok (k:Nat):Zf Yc 245 (Zjc.con k):=fP (.two .auto (.two .auto (.two (.two .auto (.one (.sum (Zjc.l0.s k)))) .auto))) (Zjc.cok k) Tryz.func245 (sC (Zjc.l0.ok k) sN)
def Zps (k:Nat) (a1:G28) (a2:G46):Option (Bool):=bif decide (a2.1≤2) then some true else Ya (Zjc k a1 a2) fun v3=>Ya (Zqj k v3 a1.1) fun v4=>bif v4.2==0 then Ya (Zle k v4.1) fun v5=>bif decide (v5≤a2.2.2.2.1) then some (decide (a2.2.2.2.2.1≤((v4.1.length):Int))) else some false else some false
def Zps.con (k:Nat):Con:=Sig.con { ps:=[.val true T28 (ros T28),.val true T46 (ros T46)],rs:=[.val false [.v .bool]],ntmps:=34 } (fun x=>Zps k x.1 x.2)
theorem Zps.ok (k:Nat):Zf Yc 164 (Zps.con k):=fA (cXr true false (cC (Zle.ok k) (cC (Zqj.ok k) (cC (Zjc.ok k) cN)))) Tryz.func164
def Zbo (k:Nat) (a1:G28):Option (Bool):=Ya (Z0i k a1) fun v2=>bif v2.2.2.2.2.2.2.2.2 then Ya (Z8d k a1) fun v3=>Ya (Ztc k v3) fun v4=>bif v4 then Ya (Zps k a1 (v2.1,(v2.2.1,(v2.2.2.1,(v2.2.2.2.1,(v2.2.2.2.2.1,(v2.2.2.2.2.2.1,(v2.2.2.2.2.2.2.1,v2.2.2.2.2.2.2.2.1)))))))) fun v5=>some v5 else some false else some false
def Zbo.con (k:Nat):Con:=Sig.con { ps:=[.val true T28 (ros T28)],rs:=[.val false [.v .bool]],ntmps:=21 } (fun x=>Zbo k x)
theorem Zbo.ok (k:Nat):Zf Yc 80 (Zbo.con k):=fA (cXr true false (cC (Ztc.ok k) (cC (Z0i.ok k) (cC (Z8d.ok k) (cC (Zps.ok k) cN))))) Tryz.func80
def Zmq (a1:G54):Option (Bool):=Ya (Zfb a1.1 1 11) fun v2=>bif !v2 then some false else let e3:=a1.1==1;let e4:=a1.1==2;let e5:=(!e3)&&((a1.2.2.1 != 0)||(!(a1.2.2.2.1==[])));let e6:=(!e4)&&(!((a1.2.2.2.2.1==0)&&((a1.2.2.2.2.2.1==0)&&((a1.2.2.2.2.2.2.1==0)&&(a1.2.2.2.2.2.2.2==[])))));let e7:=a1.1==9;let e8:=a1.1==7;let e9:=a1.2.1==0;bif e3 then Ya (Zfb a1.2.1 1 20) fun v10=>bif !v10 then some false else Ya (Zfb a1.2.2.1 0 4) fun v11=>bif (!v11)||(((a1.2.2.2.1.length):Int) != 32) then some false else bif e5 then some false else bif e4 then Ya (Z7h a1.2.2.2.2 8) fun v12=>bif (!v12)||e6 then some false else bif e3 then some true else bif e7 then Ya (Zfb a1.2.1 1 24) fun v13=>some v13 else bif e8 then Ya (Zfb a1.2.1 0 1000000) fun v14=>some v14 else some e9 else bif e6 then some false else bif e3 then some true else bif e7 then Ya (Zfb a1.2.1 1 24) fun v15=>some v15 else bif e8 then Ya (Zfb a1.2.1 0 1000000) fun v16=>some v16 else some e9 else bif e5 then some false else bif e4 then Ya (Z7h a1.2.2.2.2 8) fun v17=>bif (!v17)||e6 then some false else bif e3 then some true else bif e7 then Ya (Zfb a1.2.1 1 24) fun v18=>some v18 else bif e8 then Ya (Zfb a1.2.1 0 1000000) fun v19=>some v19 else some e9 else bif e6 then some false else bif e3 then some true else bif e7 then Ya (Zfb a1.2.1 1 24) fun v20=>some v20 else bif e8 then Ya (Zfb a1.2.1 0 1000000) fun v21=>some v21 else some e9
def Zmq.con (k:Nat):Con:=Sig.con { ps:=[.val true T54 (ros T54)],rs:=[.val false [.v .bool]],ntmps:=83 } (fun x=>Zmq x)
theorem Zmq.ok (k:Nat):Zf Yc 150 (Zmq.con k):=fA (cX (cC (Zfb.ok k) (cC (Z7h.ok k) cN))) Tryz.func150
def Zqi (k:Nat) (a1:G28) (a2:G54):Option (Int):=Ya (Zbo k a1) fun v3=>bif !v3 then some 1 else Ya (Zmq a2) fun v4=>bif !v4 then some 1 else Ya (Zbl k a1.2) fun v5=>bif decide (1000000≤v5.1) then some 9 else some 0
def Zqi.con (k:Nat):Con:=Sig.con { ps:=[.val true T28 (ros T28),.val true T54 (ros T54)],rs:=[.val false [.v (.int .i64)]],ntmps:=24 } (fun x=>Zqi k x.1 x.2)
theorem Zqi.ok (k:Nat):Zf Yc 69 (Zqi.con k):=fA (cXr true false (cC (Zbo.ok k) (cC (Zbl.ok k) (cC (Zmq.ok k) cN)))) Tryz.func69
def Zlg (a1:Int):Option (List Zlc×Str×List Int×Int):=some ([],[],[],a1)
def Zlg.con (k:Nat):Con:=Sig.con { ps:=[.val false (.int .i64) (ros (.int .i64))],rs:=[.val true [.own 151 Z6b,.v .str,.own 2 (.int .i64),.v (.int .i64)]],ntmps:=5 } (fun x=>Zlg x)
theorem Zlg.ok (k:Nat):Zf Yc 151 (Zlg.con k):=fA (cX cN) Tryz.func151
def Zrj (a1:G46):Option (Int×Int×Int×Int×Int×Str×List Int×List Int):=Ya (Zs 8 [] a1.2.2.2.2.2.2.1) fun v2=>Ya (Zs 8 [] a1.2.2.2.2.2.2.2) fun v3=>some (a1.1,a1.2.1,a1.2.2.1,a1.2.2.2.1,a1.2.2.2.2.1,a1.2.2.2.2.2.1,v2,v3)
def Zrj.con (k:Nat):Con:=Sig.con { ps:=[.val true T46 (ros T46)],rs:=[.val true [.v (.int .i64),.v (.int .i64),.v (.int .i64),.v (.int .i64),.v (.int .i64),.v .str,.own 2 (.int .i64),.own 2 (.int .i64)]],ntmps:=14 } (fun x=>Zrj x)
theorem Zrj.ok (k:Nat):Zf Yc 228 (Zrj.con k):=fA (cX cN) Tryz.func228
def Zuq (k:Nat) (a1:G26) (a2:Str):Option (List Zlc):=Ya (Zbl k a1) fun v3=>bif decide (1000000≤v3.1) then some ([]) else let e4:=(true,(0,[]));bif v3.2.2.2 != 0 then Ya (Zjk k (Yb .i64 (v3.1+1)) a2) fun v5=>some ([(false,(0,v5)),e4]) else Ya (Zjk k (Yb .i64 (v3.1+1)) a2) fun v6=>some ([(false,(1,v6)),e4])
def Zuq.con (k:Nat):Con:=Sig.con { ps:=[.val true T26 (ros T26),.val false .str (ros .str)],rs:=[.val false [.own 151 Z6b]],ntmps:=28 } (fun x=>Zuq k x.1 x.2)
theorem Zuq.ok (k:Nat):Zf Yc 54 (Zuq.con k):=fA (cXr true false (cC (Zbl.ok k) (cC (Zjk.ok k) cN))) Tryz.func54
def Z0e (k:Nat) (a1:G28) (a2:G46):Option (List Zlc):=Ya (Z3l k a2) fun v3=>Ya (Zuq k a1.2 v3) fun v4=>some v4
def Z0e.con (k:Nat):Con:=Sig.con { ps:=[.val true T28 (ros T28),.val true T46 (ros T46)],rs:=[.val false [.own 151 Z6b]],ntmps:=10 } (fun x=>Z0e k x.1 x.2)
theorem Z0e.ok (k:Nat):Zf Yc 232 (Z0e.con k):=fA (cXr true false (cC (Zuq.ok k) (cC (Z3l.ok k) cN))) Tryz.func232
def Z7d.l0 (k:Nat):Nat→List Int→List Int→Int→List Int→Option ((List Int))
 | 0,_,_,_,_=>none
 | j+1,a1,a2,a3,a4=>bif decide (a3<24) then Ya (Zad k a1 a3) fun v5=>let e6:=Yb .i64 (a3+1);bif !v5 then Ya (Zad k a2 a3) fun v7=>bif !v7 then Ya (Zs 8 a4 [a3]) fun v8=>Z7d.l0 k j a1 a2 e6 v8 else Z7d.l0 k j a1 a2 e6 a4 else Z7d.l0 k j a1 a2 e6 a4 else some a4
def Z7d (k:Nat) (a1:List Int) (a2:List Int):Option (List Int):=Ya (Z7d.l0 k k a1 a2 0 []) fun y3=>some y3
def Z7d.con (k:Nat):Con:=Sig.con { ps:=[.val false (.sl (.int .i64)) (ros (.sl (.int .i64))),.val false (.sl (.int .i64)) (ros (.sl (.int .i64)))],rs:=[.val false [.own 2 (.int .i64)]],ntmps:=27 } (fun x=>Z7d k x.1 x.2)
def Z7d.cok (k:Nat):=cX (cC (Zad.ok k) cN)
def Z7d.l0.s (k:Nat):Summ:=lp 27 { tmps:=[(0,.one (.bor (.int .i64))),(1,.one (.bor (.int .i64))),(5,.one (.own 1)),(6,.one (.v (.int .i64)))],slots:=[(1,.arr false 2 (.int .i64))],nb:=2 } [(.exit 0,{ tmps:=[(5,.one (.own 2))],slots:=[(2,.arr false 2 (.int .i64))],nb:=3 })] (fun j x=>Z7d.l0 k j x.1 x.2.1 x.2.2.1 x.2.2.2) k
def Z7d.l0.ok (k:Nat):=(lA (Z7d.cok k):Zj Yc _ (.loop (cO (cO (cR (cL (cR (cR (cB Tryz.f282)))))))) (Z7d.l0.s k))
theorem Z7d.ok (k:Nat):Zf Yc 282 (Z7d.con k):=fP (.two .auto (.two .auto (.two (.two .auto (.one (.sum (Z7d.l0.s k)))) .auto))) (Z7d.cok k) Tryz.func282 (sC (Z7d.l0.ok k) sN)
def Zxe.l0:Nat→List Int→Int→List Zok→Option ((List Zok))
 | 0,_,_,_=>none
 | j+1,a1,a2,a3=>bif decide (a2<((a1.length):Int)) then let e4:=Yb .i64 (a2+1);bif decide (0<a2) then Ya (at? a1 (Yb .i64 (a2-1))) fun v5=>Ya (at? a1 a2) fun v6=>bif (Yb .i64 (v5+1))==v6 then let e7:=Yb .i64 (((a3.length):Int)-1);let e8:=at? a3 e7;Ya (e8) fun v9=>Ya (e8) fun v10=>Ya (e8) fun v11=>Ya (e8) fun v12=>Zxe.l0 j a1 e4 (Ye a3 (Yd e7) (v12.1,(Yb .i64 (v10.2+1)))) else Ya (at? a1 a2) fun v13=>Ya (Zs 16 a3 [(v13,1)]) fun v14=>Zxe.l0 j a1 e4 v14 else Ya (at? a1 a2) fun v15=>Ya (Zs 16 a3 [(v15,1)]) fun v16=>Zxe.l0 j a1 e4 v16 else some a3
def Zxe (k:Nat) (a1:List Int):Option (List Zok):=Ya (Zxe.l0 k a1 0 []) fun y2=>some y2
def Zxe.con (k:Nat):Con:=Sig.con { ps:=[.val false (.sl (.int .i64)) (ros (.sl (.int .i64)))],rs:=[.val false [.own 243 Zei]],ntmps:=50 } (fun x=>Zxe k x)
def Zxe.cok (k:Nat):=cX cN
def Zxe.l0.s (k:Nat):Summ:=lp 50 { tmps:=[(0,.one (.bor (.int .i64))),(3,.one (.own 1)),(4,.one (.v (.int .i64)))],slots:=[(1,.arr false 243 Zei)],nb:=2 } [(.exit 0,{ tmps:=[(3,.one (.own 2))],slots:=[(2,.arr false 243 Zei)],nb:=3 })] (fun j x=>Zxe.l0 j x.1 x.2.1 x.2.2) k
def Zxe.l0.ok (k:Nat):=(lA (Zxe.cok k):Zj Yc _ (.loop (cO (cO (cR (cL (cR (cR (cB Tryz.f283)))))))) (Zxe.l0.s k))
theorem Zxe.ok (k:Nat):Zf Yc 283 (Zxe.con k):=fP (.two .auto (.two .auto (.two (.two .auto (.one (.sum (Zxe.l0.s k)))) .auto))) (Zxe.cok k) Tryz.func283 (sC (Zxe.l0.ok k) sN)
def Zcc.l0:Nat→List Zok→Int→Int→List Int→Option ((List Int))
 | 0,_,_,_,_=>none
 | j+1,a1,a2,a3,a4=>Ya (at? a1 a2) fun v5=>Ya (at? a1 a2) fun v6=>bif decide (a3<(Yb .i64 (v5.1+v6.2))) then Ya (at? a4 a3) fun v7=>Ya (at? a4 a3) fun v8=>Ya (at? a4 a3) fun v9=>Ya (at? a4 a3) fun v10=>Zcc.l0 j a1 a2 (Yb .i64 (a3+1)) (Ye a4 (Yd a3) (Yb .i64 (v8+1))) else some a4
def Zcc.l1 (k:Nat):Nat→List Zok→Int→Int→List Int→List Int→Option ((Int×List Int×List Int) ⊕ (Int×List Int))
 | 0,_,_,_,_,_=>none
 | j+1,a1,a2,a3,a4,a5=>bif decide (a2<((a1.length):Int)) then Ya (at? a1 a2) fun v6=>bif decide (v6.2<1) then some (.inr (1,[])) else Ya (at? a1 a2) fun v7=>bif decide (24<v7.2) then some (.inr (1,[])) else Ya (at? a1 a2) fun v8=>bif decide (v8.1<0) then some (.inr (1,[])) else Ya (at? a1 a2) fun v9=>Ya (at? a1 a2) fun v10=>bif decide ((Yb .i64 (24-v10.2))<v9.1) then some (.inr (1,[])) else Ya (at? a1 a2) fun v11=>Ya (Zcc.l0 k a1 a2 v11.1 a4) fun y12=>Zcc.l1 k j a1 (Yb .i64 (a2+1)) a3 y12 a5 else some (.inl (a3,a4,a5))
def Zcc.l2:Nat→Int→Int→List Int→List Int→List Int→Option ((Int×List Int×List Int) ⊕ (Int×List Int))
 | 0,_,_,_,_,_=>none
 | j+1,a1,a2,a3,a4,a5=>bif decide (a1<24) then Ya (at? a3 a1) fun v6=>Ya (at? a3 a1) fun v7=>bif decide (1<v7) then some (.inr (12,[])) else Ya (at? a3 a1) fun v8=>Ya (at? a3 a1) fun v9=>let e10:=Yb .i64 (a1+1);bif v9==1 then Ya (Zs 8 a4 [a1]) fun v11=>Zcc.l2 j e10 a2 a3 v11 a5 else Zcc.l2 j e10 a2 a3 a4 a5 else some (.inl (a2,a4,a5))
def Zcc (k:Nat) (a1:List Zok):Option (List Int×Int):=bif decide (400<((a1.length):Int)) then some ([],2) else Ya (Ztg 8 24 24 0) fun v2=>Ya (Zcc.l1 k k a1 0 0 v2 []) fun
  | .inl y3=>Ya (Zcc.l2 k 0 y3.1 y3.2.1 [] y3.2.2) fun
    | .inl y4=>some (y4.2.1,0)
    | .inr y5=>some (y5.2,y5.1)
  | .inr y6=>some (y6.2,y6.1)
def Zcc.con (k:Nat):Con:=Sig.con { ps:=[.val false (.sl Zei) (ros (.sl Zei))],rs:=[.val true [.own 2 (.int .i64),.v (.int .i64)]],ntmps:=106 } (fun x=>Zcc k x)
def Zcc.cok (k:Nat):=cX cN
def Zcc.l0.s (k:Nat):Summ:=lp 106 { tmps:=[(0,.one (.bor Zei)),(3,.one (.own 4)),(4,.one (.v (.int .i64))),(5,.one (.v (.int .i64)))],slots:=[(4,.arr false 2 (.int .i64))],nb:=5 } [(.exit 2,{ tmps:=[(3,.one (.own 5))],slots:=[(5,.arr false 2 (.int .i64))],nb:=6 })] (fun j x=>Zcc.l0 j x.1 x.2.1 x.2.2.1 x.2.2.2) k
def Zcc.l0.ok (k:Nat):=(lA (Zcc.cok k):Zj Yc _ (.loop (cO (cO (cR (cR (cO (cL (cR (cO (cO (cR (cL (cR (cR (cR (cB Yk)))))))))))))))) (Zcc.l0.s k))
def Zcc.l1.s (k:Nat):Summ:=lp 106 { tmps:=[(0,.one (.bor Zei)),(2,.one (.ptr 0 0)),(3,.one (.own 2)),(4,.one (.v (.int .i64)))],slots:=[(0,.box 254 [.own 3,.v (.int .i64)]),(2,.arr false 2 (.int .i64)),(3,.arr false 2 (.int .i64))],nb:=4 } [(.exit 0,{ tmps:=[(3,.one (.own 4))],slots:=[(0,.box 254 [.own 5,.v (.int .i64)]),(4,.arr false 2 (.int .i64)),(5,.arr false 2 (.int .i64))],nb:=6 }),(.ret,{ tmps:=[],slots:=[(0,.box 254 [.own 4,.v (.int .i64)]),(4,.arr false 2 (.int .i64))],nb:=5 })] (fun j x=>Zcc.l1 k j x.1 x.2.1 x.2.2.1 x.2.2.2.1 x.2.2.2.2) k
def Zcc.l1.ok (k:Nat):=(lP (.two .auto (.two (.one (.two .auto (.two .auto (.one (.sum (Zcc.l0.s k)))))) .auto)) (Zcc.cok k) (sC (Zcc.l0.ok k) sN):Zj Yc _ (.loop (cO (cO (cR (cL (cR (cR (cR (cB Yk))))))))) (Zcc.l1.s k))
def Zcc.l2.s (k:Nat):Summ:=lp 106 { tmps:=[(2,.one (.ptr 0 0)),(3,.one (.own 7)),(6,.one (.own 8)),(7,.one (.v (.int .i64)))],slots:=[(0,.box 254 [.own 9,.v (.int .i64)]),(7,.arr false 2 (.int .i64)),(8,.arr false 2 (.int .i64)),(9,.arr false 2 (.int .i64))],nb:=10 } [(.exit 4,{ tmps:=[(6,.one (.own 10))],slots:=[(0,.box 254 [.own 11,.v (.int .i64)]),(10,.arr false 2 (.int .i64)),(11,.arr false 2 (.int .i64))],nb:=12 }),(.ret,{ tmps:=[],slots:=[(0,.box 254 [.own 10,.v (.int .i64)]),(10,.arr false 2 (.int .i64))],nb:=11 })] (fun j x=>Zcc.l2 j x.1 x.2.1 x.2.2.1 x.2.2.2.1 x.2.2.2.2) k
def Zcc.l2.ok (k:Nat):=(lA (Zcc.cok k):Zj Yc _ (.loop (cO (cO (cR (cL (cR (cR (cR (cR (cR (cB Yk))))))))))) (Zcc.l2.s k))
theorem Zcc.ok (k:Nat):Zf Yc 284 (Zcc.con k):=fP (.two .auto (.two .auto (.two .auto (.two (.two .auto (.one (.sum (Zcc.l1.s k)))) (.two .auto (.two (.two .auto (.one (.sum (Zcc.l2.s k)))) .auto)))))) (Zcc.cok k) Tryz.func284 (sC (Zcc.l1.ok k) (sC (Zcc.l2.ok k) sN))
def Ztq (a1:Int) (a2:Int):Option (Int):=bif decide (a2<a1) then some a1 else some a2
def Ztq.con (k:Nat):Con:=Sig.con { ps:=[.val false (.int .i64) (ros (.int .i64)),.val false (.int .i64) (ros (.int .i64))],rs:=[.val false [.v (.int .i64)]],ntmps:=10 } (fun x=>Ztq x.1 x.2)
theorem Ztq.ok (k:Nat):Zf Yc 285 (Ztq.con k):=fA (cX cN) Tryz.func285
def Z4c.l0 (k:Nat):Nat→Int→Int→Int→List Zok→List Int→Option ((Int×List Int) ⊕ (List Int×Int))
 | 0,_,_,_,_,_=>none
 | j+1,a1,a2,a3,a4,a5=>bif decide (a2<((a4.length):Int)) then Ya (at? a4 a2) fun v6=>Ya (at? a4 a2) fun v7=>bif decide (a1≤v7.2) then Ya (at? a4 a2) fun v8=>Ya (at? a4 a2) fun v9=>Ya (Ztq 1 a1) fun v10=>Ya (Zcc k [(v9.1,v10)]) fun v11=>Ya (Zob v11.1 0 a1) fun v12=>some (.inr (v12,0)) else Z4c.l0 k j a1 (Yb .i64 (a2+1)) a3 a4 a5 else some (.inl (a3,a5))
def Z4c (k:Nat) (a1:List Int) (a2:List Int) (a3:Int):Option (List Int×Int):=Ya (Z7d k a1 a2) fun v4=>bif decide (((v4.length):Int)<a3) then some ([],11) else Ya (Zxe k v4) fun v5=>Ya (Z4c.l0 k k a3 0 0 v5 []) fun
  | .inl y6=>Ya (Zob v4 0 a3) fun v7=>some (v7,0)
  | .inr y8=>some (y8.1,y8.2)
def Z4c.con (k:Nat):Con:=Sig.con { ps:=[.val false (.sl (.int .i64)) (ros (.sl (.int .i64))),.val false (.sl (.int .i64)) (ros (.sl (.int .i64))),.val false (.int .i64) (ros (.int .i64))],rs:=[.val true [.v (.sl (.int .i64)),.v (.int .i64)]],ntmps:=51 } (fun x=>Z4c k x.1 x.2.1 x.2.2)
def Z4c.cok (k:Nat):=cX (cC (Z7d.ok k) (cC (Zxe.ok k) (cC (Zcc.ok k) (cC (Ztq.ok k) cN))))
def Z4c.l0.s (k:Nat):Summ:=lp 51 { tmps:=[(2,.one (.v (.int .i64))),(6,.one (.ptr 0 0)),(8,.one (.own 3)),(9,.one (.v (.int .i64)))],slots:=[(0,.box 254 [.own 4,.v (.int .i64)]),(3,.arr false 243 Zei),(4,.arr false 2 (.int .i64))],nb:=5 } [(.exit 0,{ tmps:=[],slots:=[(0,.box 254 [.own 5,.v (.int .i64)]),(5,.arr false 2 (.int .i64))],nb:=6 }),(.ret,{ tmps:=[],slots:=[(0,.box 254 [.v (.sl (.int .i64)),.v (.int .i64)])],nb:=5 })] (fun j x=>Z4c.l0 k j x.1 x.2.1 x.2.2.1 x.2.2.2.1 x.2.2.2.2) k
def Z4c.l0.ok (k:Nat):=(lA (Z4c.cok k):Zj Yc _ (.loop (cO (cO (cR (cL (cR (cR (cR (cR (cB Tryz.f237)))))))))) (Z4c.l0.s k))
theorem Z4c.ok (k:Nat):Zf Yc 237 (Z4c.con k):=fP (.two .auto (.two .auto (.two .auto (.two .auto (.two (.two .auto (.one (.sum (Z4c.l0.s k)))) .auto))))) (Z4c.cok k) Tryz.func237 (sC (Z4c.l0.ok k) sN)
def Zze.l0:Nat→Int→List Str→List Zq→Int→List Int→Int→Str→Int→List Zlc→List Int→Option ((List Int×Int×Str×Int×List Zlc×List Int))
 | 0,_,_,_,_,_,_,_,_,_,_=>none
 | j+1,a1,a2,a3,a4,a5,a6,a7,a8,a9,a10=>bif decide (a4<((a5.length):Int)) then Ya (at? a5 a4) fun v11=>Ya (Z5g (a1,(a2,a3)) v11) fun v12=>Ya (Zs 32 a9 ([(false,(v12,[]))])) fun v13=>Zze.l0 j a1 a2 a3 (Yb .i64 (a4+1)) a5 a6 a7 a8 v13 a10 else some (a5,a6,a7,a8,a9,a10)
def Zze (k:Nat) (a1:G28) (a2:G46) (a3:G54):Option (List Zlc×Str×List Int×Int):=bif a2.1 != 1 then Ya (Zlg 10) fun v4=>some (v4.1,v4.2.1,v4.2.2.1,v4.2.2.2) else Ya (Z4c k a2.2.2.2.2.2.2.1 [] (Yb .i64 (a3.2.1+a3.2.2.1))) fun v5=>bif v5.2 != 0 then Ya (Zlg v5.2) fun v6=>some (v6.1,v6.2.1,v6.2.2.1,v6.2.2.2) else Ya (Zze.l0 k a1.1 a1.2.1 a1.2.2 0 v5.1 v5.2 [] 0 [] []) fun y7=>Ya (Zs 32 y7.2.2.2.2.1 ([(true,(0,[]))])) fun v8=>Ya (Z0e k a1 (2,(0,(a3.2.1,(a3.2.2.1,(0,(a3.2.2.2.1,(a2.2.2.2.2.2.2.1,y7.1)))))))) fun v9=>Ya (Zs 32 v8 v9) fun v10=>some (v10,y7.2.2.1,y7.2.2.2.2.2,y7.2.2.2.1)
def Zze.con (k:Nat):Con:=Sig.con { ps:=[.val true T28 (ros T28),.val true T46 (ros T46),.val true T54 (ros T54)],rs:=[.val true [.own 151 Z6b,.v .str,.own 2 (.int .i64),.v (.int .i64)]],ntmps:=75 } (fun x=>Zze k x.1 x.2.1 x.2.2)
def Zze.cok (k:Nat):=cXr true false (cC (Zlg.ok k) (cC (Z0e.ok k) (cC (Z4c.ok k) (cC (Z5g.ok k) cN))))
def Zze.l0.s (k:Nat):Summ:=lp 75 { tmps:=[(3,.eptr [.v (.int .i64),.bor .str,.bor Zp]),(7,.one (.ptr 2 0)),(8,.one (.ptr 3 0)),(9,.one (.v (.int .i64)))],slots:=[(2,.box 254 [.v (.sl (.int .i64)),.v (.int .i64)]),(3,.box 121 [.own 4,.v .str,.own 5,.v (.int .i64)]),(4,.arr false 151 Z6b),(5,.arr false 2 (.int .i64))],nb:=6 } [(.exit 0,{ tmps:=[],slots:=[(2,.box 254 [.v (.sl (.int .i64)),.v (.int .i64)]),(3,.box 121 [.own 6,.v .str,.own 7,.v (.int .i64)]),(6,.arr false 151 Z6b),(7,.arr false 2 (.int .i64))],nb:=8 })] (fun j x=>Zze.l0 j x.1 x.2.1 x.2.2.1 x.2.2.2.1 x.2.2.2.2.1 x.2.2.2.2.2.1 x.2.2.2.2.2.2.1 x.2.2.2.2.2.2.2.1 x.2.2.2.2.2.2.2.2.1 x.2.2.2.2.2.2.2.2.2) k
def Zze.l0.ok (k:Nat):=(lA (Zze.cok k):Zj Yc _ (.loop (cO (cO (cR (cL (cR (cR (cR (cR (cR (cB Tryz.f229))))))))))) (Zze.l0.s k))
theorem Zze.ok (k:Nat):Zf Yc 229 (Zze.con k):=fP (.two .auto (.two .auto (.two .auto (.two .auto (.two .auto (.two (.two .auto (.one (.sum (Zze.l0.s k)))) .auto)))))) (Zze.cok k) Tryz.func229 (sC (Zze.l0.ok k) sN)
def Zzq (k:Nat) (a1:G28) (a2:G46) (a3:G54):Option (List Zlc×Str×List Int×Int):=bif a2.1 != 2 then Ya (Zlg 10) fun v4=>some (v4.1,v4.2.1,v4.2.2.1,v4.2.2.2) else Ya (Zjc k a1 a2) fun v5=>bif decide (a2.2.2.1≤((v5.length):Int)) then Ya (Zlg 9) fun v6=>some (v6.1,v6.2.1,v6.2.2.1,v6.2.2.2) else Ya (Zs 40 [] v5) fun v7=>Ya (Zs 40 v7 [a3.2.2.2.2]) fun v8=>Ya (Zt k v8 a1.1) fun v9=>bif v9 != 0 then Ya (Zlg v9) fun v10=>some (v10.1,v10.2.1,v10.2.2.1,v10.2.2.2) else Ya (at? a2.2.2.2.2.2.2.2 (Yb .i64 (a2.2.2.2.1+((v5.length):Int)))) fun v11=>Ya (Z5g a1 v11) fun v12=>Ya (Z5k k ((v5.length):Int) a3.2.2.2.2) fun v13=>let e14:=[(false,(v12,v13))];bif a3.2.2.2.2.1==5 then Ya (Zs 32 e14 ([(true,(0,[]))])) fun v15=>some (v15,[],[],0) else some (e14,[],[],0)
def Zzq.con (k:Nat):Con:=Sig.con { ps:=[.val true T28 (ros T28),.val true T46 (ros T46),.val true T54 (ros T54)],rs:=[.val true [.own 151 Z6b,.v .str,.own 2 (.int .i64),.v (.int .i64)]],ntmps:=67 } (fun x=>Zzq k x.1 x.2.1 x.2.2)
theorem Zzq.ok (k:Nat):Zf Yc 230 (Zzq.con k):=fA (cXr true false (cC (Zt.ok k) (cC (Zlg.ok k) (cC (Zjc.ok k) (cC (Z5g.ok k) (cC (Z5k.ok k) cN)))))) Tryz.func230
def Zpu:Option (List Int):=some ([1779033703,3144134277,1013904242,2773480762,1359893119,2600822924,528734635,1541459225])
def Zpu.con (k:Nat):Con:=Sig.con { ps:=[],rs:=[.val false [.own 2 (.int .i64)]],ntmps:=2 } (fun x=>Zpu )
theorem Zpu.ok (k:Nat):Zf Yc 252 (Zpu.con k):=fA (cX cN) Tryz.func252
def Z8h (a1:Int) (a2:Int):Option (Int):=Ya (Zwb a2) fun v3=>let e4:=Yb .u64 (32-a2);Ya (Zwb e4) fun v5=>some (intBits .or .u32 (shr .u32 a1 a2) (shl .u32 a1 e4))
def Z8h.con (k:Nat):Con:=Sig.con { ps:=[.val false (.int .u32) (ros (.int .u32)),.val false (.int .u64) (ros (.int .u64))],rs:=[.val false [.v (.int .u32)]],ntmps:=13 } (fun x=>Z8h x.1 x.2)
theorem Z8h.ok (k:Nat):Zf Yc 290 (Z8h.con k):=fA (cX cN) Tryz.func290
def Zms:Option (List Int):=some ([1116352408,1899447441,3049323471,3921009573,961987163,1508970993,2453635748,2870763221,3624381080,310598401,607225278,1426881987,1925078388,2162078206,2614888103,3248222580,3835390401,4022224774,264347078,604807628,770255983,1249150122,1555081692,1996064986,2554220882,2821834349,2952996808,3210313671,3336571891,3584528711,113926993,338241895,666307205,773529912,1294757372,1396182291,1695183700,1986661051,2177026350,2456956037,2730485921,2820302411,3259730800,3345764771,3516065817,3600352804,4094571909,275423344,430227734,506948616,659060556,883997877,958139571,1322822218,1537002063,1747873779,1955562222,2024104815,2227730452,2361852424,2428436474,2756734187,3204031479,3329325298])
def Zms.con (k:Nat):Con:=Sig.con { ps:=[],rs:=[.val false [.own 297 (.int .u32)]],ntmps:=2 } (fun x=>Zms )
theorem Zms.ok (k:Nat):Zf Yc 291 (Zms.con k):=fA (cX cN) Tryz.func291
def Z8.l0:Nat→Str→Int→List Int→Option ((List Int))
 | 0,_,_,_=>none
 | j+1,a1,a2,a3=>bif decide (a2<16) then let e4:=Yb .i64 (4*a2);Ya (at? a1 e4) fun v5=>Ya (Zwb 24) fun v6=>Ya (at? a1 (Yb .i64 (e4+1))) fun v7=>Ya (Zwb 16) fun v8=>Ya (at? a1 (Yb .i64 (e4+2))) fun v9=>Ya (Zwb 8) fun v10=>Ya (at? a1 (Yb .i64 (e4+3))) fun v11=>Ya (at? a3 a2) fun v12=>Ya (at? a3 a2) fun v13=>Z8.l0 j a1 (Yb .i64 (a2+1)) (Ye a3 (Yd a2) (intBits .or .u32 (intBits .or .u32 (intBits .or .u32 (shl .u32 (Yb .u32 (v5.toNat:Int)) 24) (shl .u32 (Yb .u32 (v7.toNat:Int)) 16)) (shl .u32 (Yb .u32 (v9.toNat:Int)) 8)) (Yb .u32 (v11.toNat:Int)))) else some a3
def Z8.l1:Nat→Int→List Int→Option ((List Int))
 | 0,_,_=>none
 | j+1,a1,a2=>bif decide (a1<64) then let e3:=at? a2 (Yb .i64 (a1-15));Ya (e3) fun v4=>Ya (e3) fun v5=>let e6:=at? a2 (Yb .i64 (a1-2));Ya (e6) fun v7=>Ya (e6) fun v8=>let e9:=at? a2 (Yb .i64 (a1-16));Ya (e9) fun v10=>Ya (e9) fun v11=>Ya (Z8h v5 7) fun v12=>Ya (Z8h v5 18) fun v13=>Ya (Zwb 3) fun v14=>let e15:=at? a2 (Yb .i64 (a1-7));Ya (e15) fun v16=>Ya (e15) fun v17=>Ya (Z8h v8 17) fun v18=>Ya (Z8h v8 19) fun v19=>Ya (Zwb 10) fun v20=>Ya (at? a2 a1) fun v21=>Ya (at? a2 a1) fun v22=>Z8.l1 j (Yb .i64 (a1+1)) (Ye a2 (Yd a1) (Yb .u32 ((Yb .u32 ((Yb .u32 (v11+(intBits .xor .u32 (intBits .xor .u32 v12 v13) (shr .u32 v5 3))))+v17))+(intBits .xor .u32 (intBits .xor .u32 v18 v19) (shr .u32 v8 10))))) else some a2
def Z8.l2:Nat→Int→Int→Int→Int→Int→Int→Int→Int→Int→List Int→List Int→Option ((Int×Int×Int×Int×Int×Int×Int×Int))
 | 0,_,_,_,_,_,_,_,_,_,_,_=>none
 | j+1,a1,a2,a3,a4,a5,a6,a7,a8,a9,a10,a11=>bif decide (a9<64) then Ya (Z8h a5 6) fun v12=>Ya (Z8h a5 11) fun v13=>Ya (Z8h a5 25) fun v14=>Ya (at? a11 a9) fun v15=>Ya (at? a11 a9) fun v16=>Ya (at? a10 a9) fun v17=>Ya (at? a10 a9) fun v18=>Ya (Z8h a1 2) fun v19=>Ya (Z8h a1 13) fun v20=>Ya (Z8h a1 22) fun v21=>let e22:=Yb .u32 ((Yb .u32 ((Yb .u32 ((Yb .u32 (a8+(intBits .xor .u32 (intBits .xor .u32 v12 v13) v14)))+(intBits .xor .u32 (intBits .and .u32 a5 a6) (intBits .and .u32 (intBits .xor .u32 (IntKind.max .u32) a5) a7))))+v16))+v18);Z8.l2 j (Yb .u32 (e22+(Yb .u32 ((intBits .xor .u32 (intBits .xor .u32 v19 v20) v21)+(intBits .xor .u32 (intBits .xor .u32 (intBits .and .u32 a1 a2) (intBits .and .u32 a1 a3)) (intBits .and .u32 a2 a3)))))) a1 a2 a3 (Yb .u32 (a4+e22)) a5 a6 a7 (Yb .i64 (a9+1)) a10 a11 else some (a1,a2,a3,a4,a5,a6,a7,a8)
def Z8.l3:Nat→List Int→Int→List Int→List Int→Option ((List Int))
 | 0,_,_,_,_=>none
 | j+1,a1,a2,a3,a4=>bif decide (a2<8) then Ya (at? a1 a2) fun v5=>Ya (at? a3 a2) fun v6=>Ya (at? a3 a2) fun v7=>Ya (Zs 8 a4 [(Yb .i64 (Yb .u32 ((Yb .u32 v5)+v7)))]) fun v8=>Z8.l3 j a1 (Yb .i64 (a2+1)) a3 v8 else some a4
def Z8 (k:Nat) (a1:List Int) (a2:Str):Option (List Int):=Ya (Ztg 4 64 64 0) fun v3=>Ya (Z8.l0 k a2 0 v3) fun y4=>Ya (Z8.l1 k 16 y4) fun y5=>Ya (at? a1 0) fun v6=>Ya (at? a1 1) fun v7=>Ya (at? a1 2) fun v8=>Ya (at? a1 3) fun v9=>Ya (at? a1 4) fun v10=>Ya (at? a1 5) fun v11=>Ya (at? a1 6) fun v12=>Ya (at? a1 7) fun v13=>Ya (Zms ) fun v14=>Ya (Z8.l2 k (Yb .u32 v6) (Yb .u32 v7) (Yb .u32 v8) (Yb .u32 v9) (Yb .u32 v10) (Yb .u32 v11) (Yb .u32 v12) (Yb .u32 v13) 0 y5 v14) fun y15=>Ya (Z8.l3 k a1 0 [y15.1,y15.2.1,y15.2.2.1,y15.2.2.2.1,y15.2.2.2.2.1,y15.2.2.2.2.2.1,y15.2.2.2.2.2.2.1,y15.2.2.2.2.2.2.2] []) fun y16=>some y16
def Z8.con (k:Nat):Con:=Sig.con { ps:=[.val false (.sl (.int .i64)) (ros (.sl (.int .i64))),.val false .str (ros .str)],rs:=[.val false [.own 2 (.int .i64)]],ntmps:=235 } (fun x=>Z8 k x.1 x.2)
def Z8.cok (k:Nat):=cX (cC (Z8h.ok k) (cC (Zms.ok k) cN))
def Z8.l0.s (k:Nat):Summ:=lp 235 { tmps:=[(1,.one (.v .str)),(5,.one (.own 1)),(6,.one (.v (.int .i64)))],slots:=[(1,.arr false 297 (.int .u32))],nb:=2 } [(.exit 0,{ tmps:=[(5,.one (.own 2))],slots:=[(2,.arr false 297 (.int .u32))],nb:=3 })] (fun j x=>Z8.l0 j x.1 x.2.1 x.2.2) k
def Z8.l0.ok (k:Nat):=(lA (Z8.cok k):Zj Yc _ (.loop (cO (cO (cR (cL (cR (cR (cB Yg)))))))) (Z8.l0.s k))
def Z8.l1.s (k:Nat):Summ:=lp 235 { tmps:=[(5,.one (.own 3)),(7,.one (.v (.int .i64)))],slots:=[(3,.arr false 297 (.int .u32))],nb:=4 } [(.exit 2,{ tmps:=[(5,.one (.own 4))],slots:=[(4,.arr false 297 (.int .u32))],nb:=5 })] (fun j x=>Z8.l1 j x.1 x.2) k
def Z8.l1.ok (k:Nat):=(lA (Z8.cok k):Zj Yc _ (.loop (cO (cO (cR (cL (cR (cR (cR (cB Yg))))))))) (Z8.l1.s k))
def Z8.l2.s (k:Nat):Summ:=lp 235 { tmps:=[(5,.one (.own 6)),(10,.one (.v (.int .u32))),(11,.one (.v (.int .u32))),(12,.one (.v (.int .u32))),(13,.one (.v (.int .u32))),(14,.one (.v (.int .u32))),(15,.one (.v (.int .u32))),(16,.one (.v (.int .u32))),(17,.one (.v (.int .u32))),(18,.one (.own 7)),(19,.one (.v (.int .i64)))],slots:=[(6,.arr false 297 (.int .u32)),(7,.arr false 297 (.int .u32))],nb:=8 } [(.exit 4,{ tmps:=[(10,.one (.v (.int .u32))),(11,.one (.v (.int .u32))),(12,.one (.v (.int .u32))),(13,.one (.v (.int .u32))),(14,.one (.v (.int .u32))),(15,.one (.v (.int .u32))),(16,.one (.v (.int .u32))),(17,.one (.v (.int .u32)))],slots:=[],nb:=8 })] (fun j x=>Z8.l2 j x.1 x.2.1 x.2.2.1 x.2.2.2.1 x.2.2.2.2.1 x.2.2.2.2.2.1 x.2.2.2.2.2.2.1 x.2.2.2.2.2.2.2.1 x.2.2.2.2.2.2.2.2.1 x.2.2.2.2.2.2.2.2.2.1 x.2.2.2.2.2.2.2.2.2.2) k
def Z8.l2.ok (k:Nat):=(lA (Z8.cok k):Zj Yc _ (.loop (cO (cO (cR (cL (cR (cR (cR (cR (cR (cR (cR (cB Yg))))))))))))) (Z8.l2.s k))
def Z8.l3.s (k:Nat):Summ:=lp 235 { tmps:=[(0,.one (.bor (.int .i64))),(22,.one (.own 10)),(23,.one (.own 11)),(24,.one (.v (.int .i64)))],slots:=[(10,.arr false 297 (.int .u32)),(11,.arr false 2 (.int .i64))],nb:=12 } [(.exit 6,{ tmps:=[(23,.one (.own 12))],slots:=[(12,.arr false 2 (.int .i64))],nb:=13 })] (fun j x=>Z8.l3 j x.1 x.2.1 x.2.2.1 x.2.2.2) k
def Z8.l3.ok (k:Nat):=(lA (Z8.cok k):Zj Yc _ (.loop (cO (cO (cR (cL (cR (cR (cR (cR (cR (cR (cR (cR (cR (cR (cB Yg)))))))))))))))) (Z8.l3.s k))
theorem Z8.ok (k:Nat):Zf Yc 253 (Z8.con k):=fP (.two .auto (.two .auto (.two (.two .auto (.one (.sum (Z8.l0.s k)))) (.two (.two .auto (.one (.sum (Z8.l1.s k)))) (.two .auto (.two .auto (.two .auto (.two (.two .auto (.one (.sum (Z8.l2.s k)))) (.two .auto (.two .auto (.two (.two .auto (.one (.sum (Z8.l3.s k)))) .auto))))))))))) (Z8.cok k) Tryz.func253 (sC (Z8.l0.ok k) (sC (Z8.l1.ok k) (sC (Z8.l2.ok k) (sC (Z8.l3.ok k) sN))))
end Go.Proofs.Qz
