/- What the law FnExactDeedDo needs, part 8 of 15: the Lean functions of the Go functions that it reaches, with the proofs that the calls come to what they say, and plain facts about them. Conditions: those that each theorem states. Written by a session and by its programs (after the kit's printer). -/
import Derived.Test.YtpcllejjdmmjcaaGreatDoorXFnExactDeedDo6
open Option renaming bind → Ya
open Go.Proofs.Tryz renaming prog → Yb, f183 → Yf, f253 → Yg, f87 → Yh, f284 → Yi, f88 → Yj
open Go.IntKind renaming wrap → Yc
open Int renaming toNat → Yd
open List renaming set → Ye
namespace Go.Proofs.Qz
open Go Go.RowKit
set_option linter.unusedVariables false
set_option linter.defProp false
def Zyd.l0:Nat→List Int→Int→Int→Option (Int)
 | 0,_,_,_=>none
 | j+1,a1,a2,a3=>bif decide (a3<((a1.length):Int)) then Ya (at? a1 a3) fun v4=>Ya (Zwb v4) fun v5=>Zyd.l0 j a1 (Yc .i64 (a2+(shl .i64 1 v4))) (Yc .i64 (a3+1)) else some a2
def Zyd (k:Nat) (a1:List Int):Option (Int):=Ya (Zbe k a1) fun v2=>bif !v2 then some (-1) else Ya (Zyd.l0 k a1 0 0) fun y3=>some y3
def Zyd.con (k:Nat):Con:=Sig.con { ps:=[.val false (.sl (.int .i64)) (ros (.sl (.int .i64)))],rs:=[.val false [.v (.int .i64)]],ntmps:=22 } (fun x=>Zyd k x)
def Zyd.cok (k:Nat):=cX (cC (Zbe.ok k) cN)
def Zyd.l0.s (k:Nat):Summ:=lp 22 { tmps:=[(0,.one (.bor (.int .i64))),(3,.one (.v (.int .i64))),(4,.one (.v (.int .i64)))],slots:=[],nb:=0 } [(.exit 0,{ tmps:=[(3,.one (.v (.int .i64)))],slots:=[],nb:=0 })] (fun j x=>Zyd.l0 j x.1 x.2.1 x.2.2) k
def Zyd.l0.ok (k:Nat):=(lA (Zyd.cok k):Zj Yb _ (.loop (cO (cO (cR (cL (cR (cR (cR (cB Tryz.f106))))))))) (Zyd.l0.s k))
theorem Zyd.ok (k:Nat):Ze Yb 106 (Zyd.con k):=fP (.two .auto (.two .auto (.two .auto (.two (.two .auto (.one (.sum (Zyd.l0.s k)))) .auto)))) (Zyd.cok k) Tryz.func106 (sC (Zyd.l0.ok k) sN)
def Zom (k:Nat) (a1:G46):Option (Str):=Ya (Z8b k a1.1) fun v2=>Ya (Z8b k a1.2.1) fun v3=>Ya (Zsc v2 v3) fun v4=>Ya (Z8b k a1.2.2.1) fun v5=>Ya (Zsc v4 v5) fun v6=>Ya (Z8b k a1.2.2.2.1) fun v7=>Ya (Zsc v6 v7) fun v8=>Ya (Z8b k a1.2.2.2.2.1) fun v9=>Ya (Zsc v8 v9) fun v10=>Ya (Zyd k a1.2.2.2.2.2.2.1) fun v11=>Ya (Z8b k v11) fun v12=>Ya (Zsc v10 v12) fun v13=>Ya (Zyd k a1.2.2.2.2.2.2.2) fun v14=>Ya (Z8b k v14) fun v15=>Ya (Zsc v13 v15) fun v16=>Ya (Zbj k a1.2.2.2.2.2.1) fun v17=>Ya (Zsc v16 v17) fun v18=>some v18
def Zom.con (k:Nat):Con:=Sig.con { ps:=[.val true T46 (ros T46)],rs:=[.val false [.v .str]],ntmps:=36 } (fun x=>Zom k x)
theorem Zom.ok (k:Nat):Ze Yb 55 (Zom.con k):=fA (cXr true false (cC (Z8b.ok k) (cC (Zyd.ok k) (cC (Zbj.ok k) cN)))) Tryz.func55
def Zcd.l0:Nat→List Int→Int→Int→Option (Unit ⊕ Bool)
 | 0,_,_,_=>none
 | j+1,a1,a2,a3=>bif decide (a3<((a1.length):Int)) then Ya (at? a1 a3) fun v4=>bif v4==a2 then some (.inr true) else Zcd.l0 j a1 a2 (Yc .i64 (a3+1)) else some (.inl ())
def Zcd (k:Nat) (a1:List Int) (a2:Int):Option (Bool):=Ya (Zcd.l0 k a1 a2 0) fun
  | .inl y3=>some false
  | .inr y4=>some y4
def Zcd.con (k:Nat):Con:=Sig.con { ps:=[.val false (.sl (.int .i64)) (ros (.sl (.int .i64))),.val false (.int .i64) (ros (.int .i64))],rs:=[.val false [.v .bool]],ntmps:=18 } (fun x=>Zcd k x.1 x.2)
def Zcd.cok (k:Nat):=cX cN
def Zcd.l0.s (k:Nat):Summ:=lp 18 { tmps:=[(0,.one (.bor (.int .i64))),(1,.one (.v (.int .i64))),(5,.one (.v (.int .i64)))],slots:=[],nb:=0 } [(.exit 0,{ tmps:=[],slots:=[],nb:=0 }),(.ret,{ tmps:=[(4,.one (.v .bool))],slots:=[],nb:=0 })] (fun j x=>Zcd.l0 j x.1 x.2.1 x.2.2) k
def Zcd.l0.ok (k:Nat):=(lA (Zcd.cok k):Zj Yb _ (.loop (cO (cO (cR (cL (cR (cB Tryz.f306))))))) (Zcd.l0.s k))
theorem Zcd.ok (k:Nat):Ze Yb 306 (Zcd.con k):=fP (.two .auto (.two (.two .auto (.one (.sum (Zcd.l0.s k)))) .auto)) (Zcd.cok k) Tryz.func306 (sC (Zcd.l0.ok k) sN)
def Zpf.l0 (k:Nat):Nat→Int→Int→Int→Int→Int→Str→List Int→List Int→Int→Option (Unit ⊕ Bool)
 | 0,_,_,_,_,_,_,_,_,_=>none
 | j+1,a1,a2,a3,a4,a5,a6,a7,a8,a9=>bif decide (a9<((a8.length):Int)) then Ya (at? a8 a9) fun v10=>Ya (Zcd k a7 v10) fun v11=>bif v11 then some (.inr false) else Zpf.l0 k j a1 a2 a3 a4 a5 a6 a7 a8 (Yc .i64 (a9+1)) else some (.inl ())
def Zpf (k:Nat) (a1:G46):Option (Bool):=Ya (Z7 a1.1 1 5) fun v2=>bif !v2 then some false else Ya (Zbe k a1.2.2.2.2.2.2.1) fun v3=>bif !v3 then some false else Ya (Zbe k a1.2.2.2.2.2.2.2) fun v4=>bif !v4 then some false else Ya (Zpf.l0 k k a1.1 a1.2.1 a1.2.2.1 a1.2.2.2.1 a1.2.2.2.2.1 a1.2.2.2.2.2.1 a1.2.2.2.2.2.2.1 a1.2.2.2.2.2.2.2 0) fun
  | .inl y5=>let e6:=a1.2.1==0;let e7:=a1.2.2.2.2.1==0;let e8:=((a1.2.2.2.2.2.2.2.length):Int);bif a1.1==1 then some (((((e6&&(a1.2.2.1==0))&&(a1.2.2.2.1==0))&&e7)&&(a1.2.2.2.2.2.1==[]))&&(e8==0)) else Ya (Z7 a1.2.2.1 1 20) fun v9=>bif !v9 then some false else Ya (Z7 a1.2.2.2.1 0 4) fun v10=>bif ((!v10)||(e8 != (Yc .i64 (a1.2.2.1+a1.2.2.2.1))))||(((a1.2.2.2.2.2.1.length):Int) != 32) then some false else Ya (Z7 a1.2.1 0 2) fun v11=>bif v11 then Ya (Z7 a1.2.2.2.2.1 0 40) fun v12=>some ((v12&&(e6||(a1.1==4)))&&(e7||(a1.1==5))) else some false
  | .inr y13=>some y13
def Zpf.con (k:Nat):Con:=Sig.con { ps:=[.val true T46 (ros T46)],rs:=[.val false [.v .bool]],ntmps:=122 } (fun x=>Zpf k x)
def Zpf.cok (k:Nat):=cXr true false (cC (Z7.ok k) (cC (Zbe.ok k) (cC (Zcd.ok k) cN)))
def Zpf.l0.s (k:Nat):Summ:=lp 122 { tmps:=[(1,.eptr [.v (.int .i64),.v (.int .i64),.v (.int .i64),.v (.int .i64),.v (.int .i64),.v .str,.bor (.int .i64),.bor (.int .i64)]),(3,.one (.v (.int .i64)))],slots:=[],nb:=0 } [(.exit 0,{ tmps:=[],slots:=[],nb:=0 }),(.ret,{ tmps:=[(2,.one (.v .bool))],slots:=[],nb:=0 })] (fun j x=>Zpf.l0 k j x.1 x.2.1 x.2.2.1 x.2.2.2.1 x.2.2.2.2.1 x.2.2.2.2.2.1 x.2.2.2.2.2.2.1 x.2.2.2.2.2.2.2.1 x.2.2.2.2.2.2.2.2) k
def Zpf.l0.ok (k:Nat):=(lA (Zpf.cok k):Zj Yb _ (.loop (cO (cO (cR (cL (cR (cR (cB Tryz.f300)))))))) (Zpf.l0.s k))
theorem Zpf.ok (k:Nat):Ze Yb 300 (Zpf.con k):=fP (.two .auto (.two .auto (.two (.two .auto (.one (.sum (Zpf.l0.s k)))) .auto))) (Zpf.cok k) Tryz.func300 (sC (Zpf.l0.ok k) sN)
def Zqr (k:Nat) (a1:G46):Option (Str):=Ya (Zpf k a1) fun v2=>bif !v2 then some ([]) else Ya (Zom k a1) fun v3=>some v3
def Zqr.con (k:Nat):Con:=Sig.con { ps:=[.val true T46 (ros T46)],rs:=[.val false [.v .str]],ntmps:=8 } (fun x=>Zqr k x)
theorem Zqr.ok (k:Nat):Ze Yb 274 (Zqr.con k):=fA (cXr true false (cC (Zom.ok k) (cC (Zpf.ok k) cN))) Tryz.func274
def Z4o (k:Nat) (a1:Str):Option (Int×Int×Int×Int×Int×Str×List Int×List Int×Int):=bif decide (8000<((a1.length):Int)) then some (0,0,0,0,0,[],[],[],2) else Ya (Zdc k (a1,(0,false))) fun v2=>Ya (Zdc k v2.2) fun v3=>Ya (Zdc k v3.2) fun v4=>Ya (Zdc k v4.2) fun v5=>Ya (Zdc k v5.2) fun v6=>Ya (Zdc k v6.2) fun v7=>Ya (Zhd k v7.1) fun v8=>Ya (Zdc k v7.2) fun v9=>Ya (Zhd k v9.1) fun v10=>Ya (Z5h k v9.2) fun v11=>bif v11.2.2.2 then some (0,0,0,0,0,[],[],[],3) else Ya (Zqr k (v2.1,(v3.1,(v4.1,(v5.1,(v6.1,(v11.1,(v8,v10)))))))) fun v12=>bif !(v12==a1) then some (0,0,0,0,0,[],[],[],3) else some (v2.1,v3.1,v4.1,v5.1,v6.1,v11.1,v8,v10,0)
def Z4o.con (k:Nat):Con:=Sig.con { ps:=[.val false .str (ros .str)],rs:=[.val true [.v (.int .i64),.v (.int .i64),.v (.int .i64),.v (.int .i64),.v (.int .i64),.v .str,.own 2 (.int .i64),.own 2 (.int .i64),.v (.int .i64)]],ntmps:=51 } (fun x=>Z4o k x)
theorem Z4o.ok (k:Nat):Ze Yb 227 (Z4o.con k):=fA (cX (cC (Zhd.ok k) (cC (Zdc.ok k) (cC (Z5h.ok k) (cC (Zqr.ok k) cN))))) Tryz.func227
def Zrh (k:Nat) (a1:G28):Option (Int×Int×Int×Int×Int×Str×List Int×List Int×Bool):=Ya (Z7 a1.1 1 8) fun v2=>bif !v2 then some (0,0,0,0,0,[],[],[],false) else Ya (Z1 k a1.2) fun v3=>bif (!v3)||(((a1.2.1.length):Int) != (Yc .i64 ((Yc .i64 (3+a1.1))+24))) then some (0,0,0,0,0,[],[],[],false) else Ya (Zul k a1.2) fun v4=>bif v4.2.2.1 != 0 then some (0,0,0,0,0,[],[],[],false) else Ya (Z4o k v4.2.1) fun v5=>some (v5.1,v5.2.1,v5.2.2.1,v5.2.2.2.1,v5.2.2.2.2.1,v5.2.2.2.2.2.1,v5.2.2.2.2.2.2.1,v5.2.2.2.2.2.2.2.1,v5.2.2.2.2.2.2.2.2==0)
def Zrh.con (k:Nat):Con:=Sig.con { ps:=[.val true T28 (ros T28)],rs:=[.val true [.v (.int .i64),.v (.int .i64),.v (.int .i64),.v (.int .i64),.v (.int .i64),.v .str,.own 2 (.int .i64),.own 2 (.int .i64)],.val false [.v .bool]],ntmps:=47 } (fun x=>Zrh k x)
theorem Zrh.ok (k:Nat):Ze Yb 152 (Zrh.con k):=fA (cXr true false (cC (Z7.ok k) (cC (Zul.ok k) (cC (Z1.ok k) (cC (Z4o.ok k) cN))))) Tryz.func152
def Zde.l0 (k:Nat):Nat→Int→List Str→List Zq→Int→List Str→Option ((List Str))
 | 0,_,_,_,_,_=>none
 | j+1,a1,a2,a3,a4,a5=>bif decide (a4<a1) then Ya (Ztb k (a2,a3) (Yc .i64 (3+a4))) fun v6=>Ya (Zt 16 a5 [v6]) fun v7=>Zde.l0 k j a1 a2 a3 (Yc .i64 (a4+1)) v7 else some a5
def Zde (k:Nat) (a1:G28):Option (List Str):=Ya (Zde.l0 k k a1.1 a1.2.1 a1.2.2 0 []) fun y2=>some y2
def Zde.con (k:Nat):Con:=Sig.con { ps:=[.val true T28 (ros T28)],rs:=[.val false [.own 9 .str]],ntmps:=21 } (fun x=>Zde k x)
def Zde.cok (k:Nat):=cXr true false (cC (Ztb.ok k) cN)
def Zde.l0.s (k:Nat):Summ:=lp 21 { tmps:=[(1,.eptr [.v (.int .i64),.bor .str,.bor Zo]),(3,.one (.own 1)),(4,.one (.v (.int .i64)))],slots:=[(1,.arr false 9 .str)],nb:=2 } [(.exit 0,{ tmps:=[(3,.one (.own 2))],slots:=[(2,.arr false 9 .str)],nb:=3 })] (fun j x=>Zde.l0 k j x.1 x.2.1 x.2.2.1 x.2.2.2.1 x.2.2.2.2) k
def Zde.l0.ok (k:Nat):=(lA (Zde.cok k):Zj Yb _ (.loop (cO (cO (cR (cL (cR (cR (cB Tryz.f163)))))))) (Zde.l0.s k))
theorem Zde.ok (k:Nat):Ze Yb 163 (Zde.con k):=fP (.two .auto (.two .auto (.two (.two .auto (.one (.sum (Zde.l0.s k)))) .auto))) (Zde.cok k) Tryz.func163 (sC (Zde.l0.ok k) sN)
def Zre.l0:Nat→List Zed→Int→Int→Option (Int)
 | 0,_,_,_=>none
 | j+1,a1,a2,a3=>bif (decide (a3<((a1.length):Int)))&&(decide (((a1.length):Int)≤40)) then Ya (at? a1 a3) fun v4=>let e5:=Yc .i64 (a3+1);bif v4.1==1 then Zre.l0 j a1 (Yc .i64 (a2+1)) e5 else Zre.l0 j a1 a2 e5 else some a2
def Zre (k:Nat) (a1:List Zed):Option (Int):=Ya (Zre.l0 k a1 0 0) fun y2=>some y2
def Zre.con (k:Nat):Con:=Sig.con { ps:=[.val false (.sl Z5b) (ros (.sl Z5b))],rs:=[.val false [.v (.int .i64)]],ntmps:=25 } (fun x=>Zre k x)
def Zre.cok (k:Nat):=cX cN
def Zre.l0.s (k:Nat):Summ:=lp 25 { tmps:=[(0,.one (.bor Z5b)),(3,.one (.v (.int .i64))),(4,.one (.v (.int .i64)))],slots:=[],nb:=0 } [(.exit 0,{ tmps:=[(3,.one (.v (.int .i64)))],slots:=[],nb:=0 })] (fun j x=>Zre.l0 j x.1 x.2.1 x.2.2) k
def Zre.l0.ok (k:Nat):=(lA (Zre.cok k):Zj Yb _ (.loop (cO (cO (cR (cL (cR (cR (cB Tryz.f44)))))))) (Zre.l0.s k))
theorem Zre.ok (k:Nat):Ze Yb 44 (Zre.con k):=fP (.two .auto (.two .auto (.two (.two .auto (.one (.sum (Zre.l0.s k)))) .auto))) (Zre.cok k) Tryz.func44 (sC (Zre.l0.ok k) sN)
def Zji (a1:G52) (a2:Int):Option (Bool):=Ya (Z7 a2 1 8) fun v3=>bif !v3 then some false else let e4:=Yc .i64 (a2-1);Ya (Z7 a1.2.1 0 e4) fun v5=>Ya (Z7 a1.2.2.1 0 e4) fun v6=>let e7:=a1.2.2.2==[];let e8:=v5&&(a1.2.2.1==0);bif a1.1==1 then some (e8&&e7) else let e9:=((a1.2.2.2.length):Int)==8;bif a1.1==2 then some (e8&&e9) else bif a1.1==3 then some ((v5&&v6)&&e7) else bif a1.1==4 then some ((v5&&v6)&&e9) else bif a1.1==5 then bif a1.2.1==0 then Ya (Z7 a1.2.2.1 0 1000000) fun v10=>some (v10&&e7) else some false else some false
def Zji.con (k:Nat):Con:=Sig.con { ps:=[.val true T52 (ros T52),.val false (.int .i64) (ros (.int .i64))],rs:=[.val false [.v .bool]],ntmps:=87 } (fun x=>Zji x.1 x.2)
theorem Zji.ok (k:Nat):Ze Yb 177 (Zji.con k):=fA (cX (cC (Z7.ok k) cN)) Tryz.func177
def Zu.l0:Nat→List G52→Int→Int→Option (Unit ⊕ Int)
 | 0,_,_,_=>none
 | j+1,a1,a2,a3=>bif decide (a3<((a1.length):Int)) then Ya (at? a1 a3) fun v4=>Ya (Zji v4 a2) fun v5=>bif !v5 then some (.inr 1) else Zu.l0 j a1 a2 (Yc .i64 (a3+1)) else some (.inl ())
def Zu.l1:Nat→List G52→Int→Int→Option (Unit ⊕ Int)
 | 0,_,_,_=>none
 | j+1,a1,a2,a3=>bif decide (a3<a2) then Ya (at? a1 a2) fun v4=>let e5:=Yc .i64 (a3+1);bif v4.1 != 5 then Ya (at? a1 a3) fun v6=>bif v6.1 != 5 then Ya (at? a1 a2) fun v7=>Ya (at? a1 a3) fun v8=>bif v7.2.1==v8.2.1 then some (.inr 12) else Zu.l1 j a1 a2 e5 else Zu.l1 j a1 a2 e5 else Zu.l1 j a1 a2 e5 else some (.inl ())
def Zu.l2 (k:Nat):Nat→List G52→Int→Option (Unit ⊕ Int)
 | 0,_,_=>none
 | j+1,a1,a2=>bif decide (a2<((a1.length):Int)) then Ya (Zu.l1 k a1 a2 0) fun
    | .inl y3=>Zu.l2 k j a1 (Yc .i64 (a2+1))
    | .inr y4=>some (.inr y4) else some (.inl ())
def Zu.l3:Nat→List G52→Int→Int→Option (Unit ⊕ Int)
 | 0,_,_,_=>none
 | j+1,a1,a2,a3=>bif decide (a3<((a1.length):Int)) then Ya (at? a1 a3) fun v4=>let e5:=Yc .i64 (a3+1);bif v4.1 != 5 then Zu.l3 j a1 a2 e5 else Ya (at? a1 a3) fun v6=>bif decide (v6.2.2.1≤a2) then some (.inr 8) else Ya (at? a1 a3) fun v7=>Zu.l3 j a1 v7.2.2.1 e5 else some (.inl ())
def Zu (k:Nat) (a1:List G52) (a2:Int):Option (Int):=bif decide (20<((a1.length):Int)) then some 1 else Ya (Z7 a2 1 8) fun v3=>bif !v3 then some 1 else Ya (Zu.l0 k a1 a2 0) fun
  | .inl y4=>Ya (Zu.l2 k k a1 0) fun
    | .inl y5=>Ya (Zu.l3 k a1 (-1) 0) fun
      | .inl y6=>some 0
      | .inr y7=>some y7
    | .inr y8=>some y8
  | .inr y9=>some y9
def Zu.con (k:Nat):Con:=Sig.con { ps:=[.val false (.sl T52) (ros (.sl T52)),.val false (.int .i64) (ros (.int .i64))],rs:=[.val false [.v (.int .i64)]],ntmps:=93 } (fun x=>Zu k x.1 x.2)
def Zu.cok (k:Nat):=cX (cC (Z7.ok k) (cC (Zji.ok k) cN))
def Zu.l0.s (k:Nat):Summ:=lp 93 { tmps:=[(0,.one (.bor T52)),(1,.one (.v (.int .i64))),(5,.one (.v (.int .i64)))],slots:=[],nb:=0 } [(.exit 0,{ tmps:=[],slots:=[],nb:=0 }),(.ret,{ tmps:=[(4,.one (.v (.int .i64)))],slots:=[],nb:=0 })] (fun j x=>Zu.l0 j x.1 x.2.1 x.2.2) k
def Zu.l0.ok (k:Nat):=(lA (Zu.cok k):Zj Yb _ (.loop (cO (cO (cR (cL (cR (cR (cB Yh)))))))) (Zu.l0.s k))
def Zu.l1.s (k:Nat):Summ:=lp 93 { tmps:=[(0,.one (.bor T52)),(6,.one (.v (.int .i64))),(7,.one (.v (.int .i64)))],slots:=[],nb:=0 } [(.exit 4,{ tmps:=[],slots:=[],nb:=0 }),(.ret,{ tmps:=[(4,.one (.v (.int .i64)))],slots:=[],nb:=0 })] (fun j x=>Zu.l1 j x.1 x.2.1 x.2.2) k
def Zu.l1.ok (k:Nat):=(lA (Zu.cok k):Zj Yb _ (.loop (cO (cO (cR (cO (cL (cR (cO (cO (cR (cL (cR (cR (cR (cB Yh))))))))))))))) (Zu.l1.s k))
def Zu.l2.s (k:Nat):Summ:=lp 93 { tmps:=[(0,.one (.bor T52)),(6,.one (.v (.int .i64)))],slots:=[],nb:=0 } [(.exit 2,{ tmps:=[],slots:=[],nb:=0 }),(.ret,{ tmps:=[(4,.one (.v (.int .i64)))],slots:=[],nb:=0 })] (fun j x=>Zu.l2 k j x.1 x.2) k
def Zu.l2.ok (k:Nat):=(lP (.two .auto (.two (.one (.two .auto (.one (.sum (Zu.l1.s k))))) .auto)) (Zu.cok k) (sC (Zu.l1.ok k) sN):Zj Yb _ (.loop (cO (cO (cR (cL (cR (cR (cR (cB Yh))))))))) (Zu.l2.s k))
def Zu.l3.s (k:Nat):Summ:=lp 93 { tmps:=[(0,.one (.bor T52)),(8,.one (.v (.int .i64))),(9,.one (.v (.int .i64)))],slots:=[],nb:=0 } [(.exit 6,{ tmps:=[],slots:=[],nb:=0 }),(.ret,{ tmps:=[(4,.one (.v (.int .i64)))],slots:=[],nb:=0 })] (fun j x=>Zu.l3 j x.1 x.2.1 x.2.2) k
def Zu.l3.ok (k:Nat):=(lA (Zu.cok k):Zj Yb _ (.loop (cO (cO (cR (cL (cR (cR (cR (cR (cR (cB Yh))))))))))) (Zu.l3.s k))
theorem Zu.ok (k:Nat):Ze Yb 87 (Zu.con k):=fP (.two .auto (.two .auto (.two (.two .auto (.one (.sum (Zu.l0.s k)))) (.two (.two .auto (.one (.sum (Zu.l2.s k)))) (.two .auto (.two (.two .auto (.one (.sum (Zu.l3.s k)))) .auto)))))) (Zu.cok k) Tryz.func87 (sC (Zu.l0.ok k) (sC (Zu.l2.ok k) (sC (Zu.l3.ok k) sN)))
def Zbd.l0:Nat→List G52→Int→List G52→Option ((List G52))
 | 0,_,_,_=>none
 | j+1,a1,a2,a3=>bif (decide (a2<((a1.length):Int)))&&(decide (((a1.length):Int)≤20)) then Ya (at? a1 a2) fun v4=>let e5:=Yc .i64 (a2+1);bif v4.1 != 5 then Ya (at? a1 a2) fun v6=>Ya (Zt 40 a3 [v6]) fun v7=>Zbd.l0 j a1 e5 v7 else Zbd.l0 j a1 e5 a3 else some a3
def Zbd (k:Nat) (a1:List G52):Option (List G52):=Ya (Zbd.l0 k a1 0 []) fun y2=>some y2
def Zbd.con (k:Nat):Con:=Sig.con { ps:=[.val false (.sl T52) (ros (.sl T52))],rs:=[.val false [.own 52 T52]],ntmps:=31 } (fun x=>Zbd k x)
def Zbd.cok (k:Nat):=cX cN
def Zbd.l0.s (k:Nat):Summ:=lp 31 { tmps:=[(0,.one (.bor T52)),(3,.one (.own 1)),(4,.one (.v (.int .i64)))],slots:=[(1,.arr false 52 T52)],nb:=2 } [(.exit 0,{ tmps:=[(3,.one (.own 2))],slots:=[(2,.arr false 52 T52)],nb:=3 })] (fun j x=>Zbd.l0 j x.1 x.2.1 x.2.2) k
def Zbd.l0.ok (k:Nat):=(lA (Zbd.cok k):Zj Yb _ (.loop (cO (cO (cR (cL (cR (cR (cB Tryz.f178)))))))) (Zbd.l0.s k))
theorem Zbd.ok (k:Nat):Ze Yb 178 (Zbd.con k):=fP (.two .auto (.two .auto (.two (.two .auto (.one (.sum (Zbd.l0.s k)))) .auto))) (Zbd.cok k) Tryz.func178 (sC (Zbd.l0.ok k) sN)
def Ztt (a1:G52) (a2:Int):Option (Bool):=some (((a1.1==3)||(a1.1==4))&&(a1.2.2.1==a2))
def Ztt.con (k:Nat):Con:=Sig.con { ps:=[.val true T52 (ros T52),.val false (.int .i64) (ros (.int .i64))],rs:=[.val false [.v .bool]],ntmps:=19 } (fun x=>Ztt x.1 x.2)
theorem Ztt.ok (k:Nat):Ze Yb 289 (Ztt.con k):=fA (cX cN) Tryz.func289
def Z6c.l0:Nat→List G52→List Bool→Int→Int→Option (Unit ⊕ Bool)
 | 0,_,_,_,_=>none
 | j+1,a1,a2,a3,a4=>bif decide (a4<((a1.length):Int)) then let e5:=Yc .i64 (a4+1);bif a4 != a3 then Ya (at? a2 a4) fun v6=>bif v6 then Ya (at? a1 a4) fun v7=>Ya (at? a1 a3) fun v8=>Ya (Ztt v7 v8.2.1) fun v9=>bif v9 then some (.inr true) else Z6c.l0 j a1 a2 a3 e5 else Z6c.l0 j a1 a2 a3 e5 else Z6c.l0 j a1 a2 a3 e5 else some (.inl ())
def Z6c (k:Nat) (a1:List G52) (a2:List Bool) (a3:List Bool) (a4:Int):Option (Bool):=Ya (at? a1 a4) fun v5=>Ya (at? a3 v5.2.1) fun v6=>bif v6 then some false else Ya (Z6c.l0 k a1 a2 a4 0) fun
  | .inl y7=>some false
  | .inr y8=>some y8
def Z6c.con (k:Nat):Con:=Sig.con { ps:=[.val false (.sl T52) (ros (.sl T52)),.val false (.sl .bool) (ros (.sl .bool)),.val false (.sl .bool) (ros (.sl .bool)),.val false (.int .i64) (ros (.int .i64))],rs:=[.val false [.v .bool]],ntmps:=45 } (fun x=>Z6c k x.1 x.2.1 x.2.2.1 x.2.2.2)
def Z6c.cok (k:Nat):=cX (cC (Ztt.ok k) cN)
def Z6c.l0.s (k:Nat):Summ:=lp 45 { tmps:=[(0,.one (.bor T52)),(1,.one (.bor .bool)),(3,.one (.v (.int .i64))),(9,.one (.v (.int .i64)))],slots:=[],nb:=0 } [(.exit 0,{ tmps:=[],slots:=[],nb:=0 }),(.ret,{ tmps:=[(8,.one (.v .bool))],slots:=[],nb:=0 })] (fun j x=>Z6c.l0 j x.1 x.2.1 x.2.2.1 x.2.2.2) k
def Z6c.l0.ok (k:Nat):=(lA (Z6c.cok k):Zj Yb _ (.loop (cO (cO (cR (cL (cR (cR (cB Tryz.f251)))))))) (Z6c.l0.s k))
theorem Z6c.ok (k:Nat):Ze Yb 251 (Z6c.con k):=fP (.two .auto (.two .auto (.two (.two .auto (.one (.sum (Z6c.l0.s k)))) .auto))) (Z6c.cok k) Tryz.func251 (sC (Z6c.l0.ok k) sN)
def Zqd.l0 (k:Nat):Nat→List G52→List Bool→List Bool→Int→Int→Int→Option ((Int×Int))
 | 0,_,_,_,_,_,_=>none
 | j+1,a1,a2,a3,a4,a5,a6=>bif decide (a6<((a1.length):Int)) then Ya (at? a2 a6) fun v7=>let e8:=Yc .i64 (a6+1);bif !v7 then Zqd.l0 k j a1 a2 a3 a4 a5 e8 else bif decide (a5<0) then bif decide (a4<0) then Ya (Z6c k a1 a2 a3 a6) fun v9=>bif !v9 then Zqd.l0 k j a1 a2 a3 a6 a6 e8 else Zqd.l0 k j a1 a2 a3 a4 a6 e8 else Zqd.l0 k j a1 a2 a3 a4 a6 e8 else bif decide (a4<0) then Ya (Z6c k a1 a2 a3 a6) fun v10=>bif !v10 then Zqd.l0 k j a1 a2 a3 a6 a5 e8 else Zqd.l0 k j a1 a2 a3 a4 a5 e8 else Zqd.l0 k j a1 a2 a3 a4 a5 e8 else some (a4,a5)
def Zqd (k:Nat) (a1:List G52) (a2:List Bool) (a3:List Bool):Option (Int×Int):=Ya (Zqd.l0 k k a1 a2 a3 (-1) (-1) 0) fun y4=>some (y4.1,y4.2)
def Zqd.con (k:Nat):Con:=Sig.con { ps:=[.val false (.sl T52) (ros (.sl T52)),.val false (.sl .bool) (ros (.sl .bool)),.val false (.sl .bool) (ros (.sl .bool))],rs:=[.val false [.v (.int .i64)],.val false [.v (.int .i64)]],ntmps:=38 } (fun x=>Zqd k x.1 x.2.1 x.2.2)
def Zqd.cok (k:Nat):=cX (cC (Z6c.ok k) cN)
def Zqd.l0.s (k:Nat):Summ:=lp 38 { tmps:=[(0,.one (.bor T52)),(1,.one (.bor .bool)),(2,.one (.bor .bool)),(8,.one (.v (.int .i64))),(9,.one (.v (.int .i64))),(10,.one (.v (.int .i64)))],slots:=[],nb:=0 } [(.exit 0,{ tmps:=[(8,.one (.v (.int .i64))),(9,.one (.v (.int .i64)))],slots:=[],nb:=0 })] (fun j x=>Zqd.l0 k j x.1 x.2.1 x.2.2.1 x.2.2.2.1 x.2.2.2.2.1 x.2.2.2.2.2) k
def Zqd.l0.ok (k:Nat):=(lA (Zqd.cok k):Zj Yb _ (.loop (cO (cO (cR (cL (cR (cR (cB Tryz.f179)))))))) (Zqd.l0.s k))
theorem Zqd.ok (k:Nat):Ze Yb 179 (Zqd.con k):=fP (.two .auto (.two .auto (.two (.two .auto (.one (.sum (Zqd.l0.s k)))) .auto))) (Zqd.cok k) Tryz.func179 (sC (Zqd.l0.ok k) sN)
def Z1b.l0:Nat→Int→List G52→List Bool→Option ((List G52×List Bool))
 | 0,_,_,_=>none
 | j+1,a1,a2,a3=>bif decide (a1<((a2.length):Int)) then Ya (at? a3 a1) fun v4=>Ya (at? a3 a1) fun v5=>Z1b.l0 j (Yc .i64 (a1+1)) a2 (Ye a3 (Yd a1) true) else some (a2,a3)
def Z1b.l1 (k:Nat):Nat→Int→List G52→List Bool→List Bool→List Zed→Option ((List Zed))
 | 0,_,_,_,_,_=>none
 | j+1,a1,a2,a3,a4,a5=>Ya (Zqd k a2 a3 a4) fun v6=>bif decide (v6.2<0) then some a5 else bif decide (0≤v6.1) then let e7:=at? a2 v6.1;Ya (e7) fun v8=>Ya (e7) fun v9=>Ya (Zt 32 a5 [(2,(v6.1,(v9.2.1,0)))]) fun v10=>let e11:=at? a3 v6.1;Ya (e11) fun v12=>Ya (e11) fun v13=>Z1b.l1 k j a1 a2 (Ye a3 (Yd v6.1) false) a4 v10 else let e14:=at? a2 v6.2;Ya (e14) fun v15=>Ya (e14) fun v16=>Ya (Zt 32 a5 [(1,(v6.2,(v16.2.1,a1)))]) fun v17=>Ya (e14) fun v18=>Ya (e14) fun v19=>let e20:=at? a4 v19.2.1;Ya (e20) fun v21=>Ya (e20) fun v22=>Z1b.l1 k j (Yc .i64 (a1+1)) a2 a3 (Ye a4 (Yd v19.2.1) true) v17
def Z1b (k:Nat) (a1:List G52):Option (List Zed):=Ya (Zbd k a1) fun v2=>Ya (Z3g 1 ((v2.length):Int) ((v2.length):Int) false) fun v3=>Ya (Z1b.l0 k 0 v2 v3) fun y4=>Ya (Z3g 1 8 8 false) fun v5=>Ya (Z1b.l1 k k 0 y4.1 y4.2 v5 []) fun y6=>some y6
def Z1b.con (k:Nat):Con:=Sig.con { ps:=[.val false (.sl T52) (ros (.sl T52))],rs:=[.val false [.own 139 Z5b]],ntmps:=74 } (fun x=>Z1b k x)
def Z1b.cok (k:Nat):=cX (cC (Zbd.ok k) (cC (Zqd.ok k) cN))
def Z1b.l0.s (k:Nat):Summ:=lp 74 { tmps:=[(3,.one (.own 2)),(4,.one (.own 3)),(5,.one (.v (.int .i64)))],slots:=[(2,.arr false 52 T52),(3,.arr false 4 .bool)],nb:=4 } [(.exit 0,{ tmps:=[(3,.one (.own 4)),(4,.one (.own 5))],slots:=[(4,.arr false 52 T52),(5,.arr false 4 .bool)],nb:=6 })] (fun j x=>Z1b.l0 j x.1 x.2.1 x.2.2) k
def Z1b.l0.ok (k:Nat):=(lA (Z1b.cok k):Zj Yb _ (.loop (cO (cO (cR (cL (cR (cR (cR (cB Yj))))))))) (Z1b.l0.s k))
def Z1b.l1.s (k:Nat):Summ:=lp 74 { tmps:=[(3,.one (.own 8)),(4,.one (.own 9)),(6,.one (.own 10)),(7,.one (.own 11)),(8,.one (.v (.int .i64)))],slots:=[(8,.arr false 52 T52),(9,.arr false 4 .bool),(10,.arr false 4 .bool),(11,.arr false 139 Z5b)],nb:=12 } [(.ret,{ tmps:=[(2,.one (.own 12))],slots:=[(12,.arr false 139 Z5b)],nb:=13 })] (fun j x=>Z1b.l1 k j x.1 x.2.1 x.2.2.1 x.2.2.2.1 x.2.2.2.2) k
def Z1b.l1.ok (k:Nat):=(lA (Z1b.cok k):Zj Yb _ (.loop (cO (cO (cR (cR (cR (cR (cR (cR (cR (cB Yj))))))))))) (Z1b.l1.s k))
theorem Z1b.ok (k:Nat):Ze Yb 88 (Z1b.con k):=fP (.two .auto (.two .auto (.two .auto (.two (.two .auto (.one (.sum (Z1b.l0.s k)))) (.two .auto (.two .auto (.two .auto (.one (.sum (Z1b.l1.s k)))))))))) (Z1b.cok k) Tryz.func88 (sC (Z1b.l0.ok k) (sC (Z1b.l1.ok k) sN))
def Z1j (k:Nat) (a1:List G52) (a2:Int):Option (List Zed×Int):=bif decide (400<((a1.length):Int)) then some ([],2) else Ya (Zu k a1 a2) fun v3=>bif v3 != 0 then some ([],v3) else Ya (Z1b k a1) fun v4=>some (v4,0)
def Z1j.con (k:Nat):Con:=Sig.con { ps:=[.val false (.sl T52) (ros (.sl T52)),.val false (.int .i64) (ros (.int .i64))],rs:=[.val true [.own 139 Z5b,.v (.int .i64)]],ntmps:=20 } (fun x=>Z1j k x.1 x.2)
theorem Z1j.ok (k:Nat):Ze Yb 45 (Z1j.con k):=fA (cX (cC (Zu.ok k) (cC (Z1b.ok k) cN))) Tryz.func45
def Zfh (a1:G28) (a2:Int):Option (Int):=some (Yc .i64 ((Yc .i64 (3+a1.1))+a2))
def Zfh.con (k:Nat):Con:=Sig.con { ps:=[.val true T28 (ros T28),.val false (.int .i64) (ros (.int .i64))],rs:=[.val false [.v (.int .i64)]],ntmps:=10 } (fun x=>Zfh x.1 x.2)
theorem Zfh.ok (k:Nat):Ze Yb 275 (Zfh.con k):=fA (cXr true false cN) Tryz.func275
def Znm (k:Nat) (a1:G52):Option (Str):=Ya (Z8b k a1.1) fun v2=>Ya (Z8b k a1.2.1) fun v3=>Ya (Zsc v2 v3) fun v4=>Ya (Z8b k a1.2.2.1) fun v5=>Ya (Zsc v4 v5) fun v6=>Ya (Zbj k a1.2.2.2) fun v7=>Ya (Zsc v6 v7) fun v8=>some v8
def Znm.con (k:Nat):Con:=Sig.con { ps:=[.val true T52 (ros T52)],rs:=[.val false [.v .str]],ntmps:=18 } (fun x=>Znm k x)
theorem Znm.ok (k:Nat):Ze Yb 301 (Znm.con k):=fA (cX (cC (Z8b.ok k) (cC (Zbj.ok k) cN))) Tryz.func301
def Zol (k:Nat) (a1:Int) (a2:G52):Option (Str):=Ya (Z7 a1 0 1000000) fun v3=>bif !v3 then some ([]) else Ya (Zji a2 8) fun v4=>bif !v4 then some ([]) else Ya (Z8b k a1) fun v5=>Ya (Znm k a2) fun v6=>Ya (Zsc v5 v6) fun v7=>Ya (Zql k v7) fun v8=>some v8
def Zol.con (k:Nat):Con:=Sig.con { ps:=[.val false (.int .i64) (ros (.int .i64)),.val true T52 (ros T52)],rs:=[.val false [.v .str]],ntmps:=19 } (fun x=>Zol k x.1 x.2)
theorem Zol.ok (k:Nat):Ze Yb 276 (Zol.con k):=fA (cX (cC (Z7.ok k) (cC (Z8b.ok k) (cC (Zji.ok k) (cC (Zql.ok k) (cC (Znm.ok k) cN)))))) Tryz.func276
def Zrr (k:Nat) (a1:G52):Option (Str):=Ya (Zji a1 8) fun v2=>bif !v2 then some ([]) else Ya (Znm k a1) fun v3=>some v3
def Zrr.con (k:Nat):Con:=Sig.con { ps:=[.val true T52 (ros T52)],rs:=[.val false [.v .str]],ntmps:=8 } (fun x=>Zrr k x)
theorem Zrr.ok (k:Nat):Ze Yb 324 (Zrr.con k):=fA (cX (cC (Zji.ok k) (cC (Znm.ok k) cN))) Tryz.func324
def Zmm (k:Nat) (a1:Str):Option (Int×Int×Int×Str×Int):=bif decide (8000<((a1.length):Int)) then some (0,0,0,[],2) else Ya (Zdc k (a1,(0,false))) fun v2=>Ya (Zdc k v2.2) fun v3=>Ya (Zdc k v3.2) fun v4=>Ya (Z5h k v4.2) fun v5=>bif v5.2.2.2 then some (0,0,0,[],3) else Ya (Zrr k (v2.1,(v3.1,(v4.1,v5.1)))) fun v6=>bif !(v6==a1) then some (0,0,0,[],3) else some (v2.1,v3.1,v4.1,v5.1,0)
def Zmm.con (k:Nat):Con:=Sig.con { ps:=[.val false .str (ros .str)],rs:=[.val true [.v (.int .i64),.v (.int .i64),.v (.int .i64),.v .str,.v (.int .i64)]],ntmps:=37 } (fun x=>Zmm k x)
theorem Zmm.ok (k:Nat):Ze Yb 317 (Zmm.con k):=fA (cX (cC (Zdc.ok k) (cC (Z5h.ok k) (cC (Zrr.ok k) cN)))) Tryz.func317
def Zpl (k:Nat) (a1:Str) (a2:Int):Option (Int×Int×Int×Str×Int):=Ya (Zrl k a1) fun v3=>bif v3.2.2 != 0 then some (0,0,0,[],v3.2.2) else Ya (Zdc k (v3.1,(0,false))) fun v4=>Ya (Zpb v3.1 v4.2.2.1 ((v3.1.length):Int)) fun v5=>Ya (Zmm k v5) fun v6=>bif v4.2.2.2||(v6.2.2.2.2 != 0) then some (0,0,0,[],3) else Ya (Zol k v4.1 (v6.1,(v6.2.1,(v6.2.2.1,v6.2.2.2.1)))) fun v7=>bif !(v7==a1) then some (0,0,0,[],3) else bif v4.1 != a2 then some (0,0,0,[],6) else some (v6.1,v6.2.1,v6.2.2.1,v6.2.2.2.1,v6.2.2.2.2)
def Zpl.con (k:Nat):Con:=Sig.con { ps:=[.val false .str (ros .str),.val false (.int .i64) (ros (.int .i64))],rs:=[.val true [.v (.int .i64),.v (.int .i64),.v (.int .i64),.v .str,.v (.int .i64)]],ntmps:=54 } (fun x=>Zpl k x.1 x.2)
theorem Zpl.ok (k:Nat):Ze Yb 307 (Zpl.con k):=fA (cX (cC (Zrl.ok k) (cC (Zdc.ok k) (cC (Zol.ok k) (cC (Zmm.ok k) cN))))) Tryz.func307
def Zbg.l0 (k:Nat):Nat→List Str→Int→List G52→Option ((List G52))
 | 0,_,_,_=>none
 | j+1,a1,a2,a3=>bif decide (a2<((a1.length):Int)) then Ya (at? a1 a2) fun v4=>Ya (Zpl k v4 a2) fun v5=>bif v5.2.2.2.2 != 0 then some a3 else Ya (Zt 40 a3 [(v5.1,(v5.2.1,(v5.2.2.1,v5.2.2.2.1)))]) fun v6=>Zbg.l0 k j a1 (Yc .i64 (a2+1)) v6 else some a3
def Zbg (k:Nat) (a1:List Str):Option (List G52):=Ya (Zbg.l0 k k a1 0 []) fun y2=>some y2
def Zbg.con (k:Nat):Con:=Sig.con { ps:=[.val false (.sl .str) (ros (.sl .str))],rs:=[.val false [.own 52 T52]],ntmps:=28 } (fun x=>Zbg k x)
def Zbg.cok (k:Nat):=cX (cC (Zpl.ok k) cN)
def Zbg.l0.s (k:Nat):Summ:=lp 28 { tmps:=[(0,.one (.bor .str)),(3,.one (.own 1)),(4,.one (.v (.int .i64)))],slots:=[(1,.arr false 52 T52)],nb:=2 } [(.exit 0,{ tmps:=[(3,.one (.own 2))],slots:=[(2,.arr false 52 T52)],nb:=3 })] (fun j x=>Zbg.l0 k j x.1 x.2.1 x.2.2) k
def Zbg.l0.ok (k:Nat):=(lA (Zbg.cok k):Zj Yb _ (.loop (cO (cO (cR (cL (cR (cR (cB Tryz.f288)))))))) (Zbg.l0.s k))
theorem Zbg.ok (k:Nat):Ze Yb 288 (Zbg.con k):=fP (.two .auto (.two .auto (.two (.two .auto (.one (.sum (Zbg.l0.s k)))) .auto))) (Zbg.cok k) Tryz.func288 (sC (Zbg.l0.ok k) sN)
def Zjc.l0 (k:Nat):Nat→Int→List Str→List Zq→Int→Int→Int→Int→Int→Str→List Int→List Int→Int→List Str→Option ((List Str))
 | 0,_,_,_,_,_,_,_,_,_,_,_,_,_=>none
 | j+1,a1,a2,a3,a4,a5,a6,a7,a8,a9,a10,a11,a12,a13=>bif decide (a12<((a11.length):Int)) then Ya (at? a11 a12) fun v14=>Ya (Zfh (a1,(a2,a3)) v14) fun v15=>Ya (Ztb k (a2,a3) v15) fun v16=>Ya (Zt 16 a13 [v16]) fun v17=>Zjc.l0 k j a1 a2 a3 a4 a5 a6 a7 a8 a9 a10 a11 (Yc .i64 (a12+1)) v17 else some a13
def Zjc (k:Nat) (a1:G28) (a2:G46):Option (List G52):=Ya (Zjc.l0 k k a1.1 a1.2.1 a1.2.2 a2.1 a2.2.1 a2.2.2.1 a2.2.2.2.1 a2.2.2.2.2.1 a2.2.2.2.2.2.1 a2.2.2.2.2.2.2.1 a2.2.2.2.2.2.2.2 a2.2.2.2.1 []) fun y3=>Ya (Zbg k y3) fun v4=>some v4
def Zjc.con (k:Nat):Con:=Sig.con { ps:=[.val true T28 (ros T28),.val true T46 (ros T46)],rs:=[.val false [.own 52 T52]],ntmps:=32 } (fun x=>Zjc k x.1 x.2)
def Zjc.cok (k:Nat):=cXr true false (cC (Ztb.ok k) (cC (Zfh.ok k) (cC (Zbg.ok k) cN)))
def Zjc.l0.s (k:Nat):Summ:=lp 32 { tmps:=[(2,.eptr [.v (.int .i64),.bor .str,.bor Zo]),(3,.eptr [.v (.int .i64),.v (.int .i64),.v (.int .i64),.v (.int .i64),.v (.int .i64),.v .str,.bor (.int .i64),.bor (.int .i64)]),(5,.one (.own 1)),(6,.one (.v (.int .i64)))],slots:=[(1,.arr false 9 .str)],nb:=2 } [(.exit 0,{ tmps:=[(5,.one (.own 2))],slots:=[(2,.arr false 9 .str)],nb:=3 })] (fun j x=>Zjc.l0 k j x.1 x.2.1 x.2.2.1 x.2.2.2.1 x.2.2.2.2.1 x.2.2.2.2.2.1 x.2.2.2.2.2.2.1 x.2.2.2.2.2.2.2.1 x.2.2.2.2.2.2.2.2.1 x.2.2.2.2.2.2.2.2.2.1 x.2.2.2.2.2.2.2.2.2.2.1 x.2.2.2.2.2.2.2.2.2.2.2.1 x.2.2.2.2.2.2.2.2.2.2.2.2) k
def Zjc.l0.ok (k:Nat):=(lA (Zjc.cok k):Zj Yb _ (.loop (cO (cO (cR (cL (cR (cR (cB Tryz.f245)))))))) (Zjc.l0.s k))
theorem Zjc.ok (k:Nat):Ze Yb 245 (Zjc.con k):=fP (.two .auto (.two .auto (.two (.two .auto (.one (.sum (Zjc.l0.s k)))) .auto))) (Zjc.cok k) Tryz.func245 (sC (Zjc.l0.ok k) sN)
def Zut (k:Nat) (a1:G28) (a2:G46):Option (Bool):=bif decide (a2.1≤2) then some true else Ya (Zjc k a1 a2) fun v3=>Ya (Z1j k v3 a1.1) fun v4=>bif v4.2==0 then Ya (Zre k v4.1) fun v5=>bif decide (v5≤a2.2.2.2.1) then some (decide (a2.2.2.2.2.1≤((v4.1.length):Int))) else some false else some false
def Zut.con (k:Nat):Con:=Sig.con { ps:=[.val true T28 (ros T28),.val true T46 (ros T46)],rs:=[.val false [.v .bool]],ntmps:=34 } (fun x=>Zut k x.1 x.2)
theorem Zut.ok (k:Nat):Ze Yb 164 (Zut.con k):=fA (cXr true false (cC (Zre.ok k) (cC (Z1j.ok k) (cC (Zjc.ok k) cN)))) Tryz.func164
def Zkm (k:Nat) (a1:G28):Option (Bool):=Ya (Zrh k a1) fun v2=>bif v2.2.2.2.2.2.2.2.2 then Ya (Zde k a1) fun v3=>Ya (Zuc k v3) fun v4=>bif v4 then Ya (Zut k a1 (v2.1,(v2.2.1,(v2.2.2.1,(v2.2.2.2.1,(v2.2.2.2.2.1,(v2.2.2.2.2.2.1,(v2.2.2.2.2.2.2.1,v2.2.2.2.2.2.2.2.1)))))))) fun v5=>some v5 else some false else some false
def Zkm.con (k:Nat):Con:=Sig.con { ps:=[.val true T28 (ros T28)],rs:=[.val false [.v .bool]],ntmps:=21 } (fun x=>Zkm k x)
theorem Zkm.ok (k:Nat):Ze Yb 80 (Zkm.con k):=fA (cXr true false (cC (Zuc.ok k) (cC (Zrh.ok k) (cC (Zde.ok k) (cC (Zut.ok k) cN))))) Tryz.func80
def Zsn (a1:G54):Option (Bool):=Ya (Z7 a1.1 1 11) fun v2=>bif !v2 then some false else let e3:=a1.1==1;let e4:=a1.1==2;let e5:=(!e3)&&((a1.2.2.1 != 0)||(!(a1.2.2.2.1==[])));let e6:=(!e4)&&(!((a1.2.2.2.2.1==0)&&((a1.2.2.2.2.2.1==0)&&((a1.2.2.2.2.2.2.1==0)&&(a1.2.2.2.2.2.2.2==[])))));let e7:=a1.1==9;let e8:=a1.1==7;let e9:=a1.2.1==0;bif e3 then Ya (Z7 a1.2.1 1 20) fun v10=>bif !v10 then some false else Ya (Z7 a1.2.2.1 0 4) fun v11=>bif (!v11)||(((a1.2.2.2.1.length):Int) != 32) then some false else bif e5 then some false else bif e4 then Ya (Zji a1.2.2.2.2 8) fun v12=>bif (!v12)||e6 then some false else bif e3 then some true else bif e7 then Ya (Z7 a1.2.1 1 24) fun v13=>some v13 else bif e8 then Ya (Z7 a1.2.1 0 1000000) fun v14=>some v14 else some e9 else bif e6 then some false else bif e3 then some true else bif e7 then Ya (Z7 a1.2.1 1 24) fun v15=>some v15 else bif e8 then Ya (Z7 a1.2.1 0 1000000) fun v16=>some v16 else some e9 else bif e5 then some false else bif e4 then Ya (Zji a1.2.2.2.2 8) fun v17=>bif (!v17)||e6 then some false else bif e3 then some true else bif e7 then Ya (Z7 a1.2.1 1 24) fun v18=>some v18 else bif e8 then Ya (Z7 a1.2.1 0 1000000) fun v19=>some v19 else some e9 else bif e6 then some false else bif e3 then some true else bif e7 then Ya (Z7 a1.2.1 1 24) fun v20=>some v20 else bif e8 then Ya (Z7 a1.2.1 0 1000000) fun v21=>some v21 else some e9
def Zsn.con (k:Nat):Con:=Sig.con { ps:=[.val true T54 (ros T54)],rs:=[.val false [.v .bool]],ntmps:=83 } (fun x=>Zsn x)
theorem Zsn.ok (k:Nat):Ze Yb 150 (Zsn.con k):=fA (cX (cC (Z7.ok k) (cC (Zji.ok k) cN))) Tryz.func150
def Zdd.l0:Nat→List Int→Int→Int→Option (Unit ⊕ Bool)
 | 0,_,_,_=>none
 | j+1,a1,a2,a3=>bif decide (a3<((a1.length):Int)) then Ya (at? a1 a3) fun v4=>Ya (Z7 v4 0 a2) fun v5=>bif !v5 then some (.inr false) else Zdd.l0 j a1 a2 (Yc .i64 (a3+1)) else some (.inl ())
def Zdd (k:Nat) (a1:List Int) (a2:Int) (a3:Int):Option (Bool):=bif decide (a2<((a1.length):Int)) then some false else Ya (Zdd.l0 k a1 a3 0) fun
  | .inl y4=>some true
  | .inr y5=>some y5
def Zdd.con (k:Nat):Con:=Sig.con { ps:=[.val false (.sl (.int .i64)) (ros (.sl (.int .i64))),.val false (.int .i64) (ros (.int .i64)),.val false (.int .i64) (ros (.int .i64))],rs:=[.val false [.v .bool]],ntmps:=25 } (fun x=>Zdd k x.1 x.2.1 x.2.2)
def Zdd.cok (k:Nat):=cX (cC (Z7.ok k) cN)
def Zdd.l0.s (k:Nat):Summ:=lp 25 { tmps:=[(0,.one (.bor (.int .i64))),(2,.one (.v (.int .i64))),(7,.one (.v (.int .i64)))],slots:=[],nb:=0 } [(.exit 0,{ tmps:=[],slots:=[],nb:=0 }),(.ret,{ tmps:=[(6,.one (.v .bool))],slots:=[],nb:=0 })] (fun j x=>Zdd.l0 j x.1 x.2.1 x.2.2) k
def Zdd.l0.ok (k:Nat):=(lA (Zdd.cok k):Zj Yb _ (.loop (cO (cO (cR (cL (cR (cR (cB Tryz.f165)))))))) (Zdd.l0.s k))
theorem Zdd.ok (k:Nat):Ze Yb 165 (Zdd.con k):=fP (.two .auto (.two .auto (.two (.two .auto (.one (.sum (Zdd.l0.s k)))) .auto))) (Zdd.cok k) Tryz.func165 (sC (Zdd.l0.ok k) sN)
def Z2o (k:Nat) (a1:G86):Option (Bool):=Ya (Zsn a1.1) fun v2=>bif !v2 then some false else Ya (Z7 a1.2.1 (-1) 50) fun v3=>bif !v3 then some false else Ya (Zdd k a1.2.2.1 40 200) fun v4=>bif !v4 then some false else Ya (Zdd k a1.2.2.2 5 50) fun v5=>bif !v5 then some false else some ((decide (0≤a1.2.1))||((((a1.2.2.1.length):Int)==0)&&(((a1.2.2.2.length):Int)==0)))
def Z2o.con (k:Nat):Con:=Sig.con { ps:=[.val true T86 (ros T86)],rs:=[.val false [.v .bool]],ntmps:=40 } (fun x=>Z2o k x)
theorem Z2o.ok (k:Nat):Ze Yb 81 (Z2o.con k):=fA (cXr true false (cC (Z7.ok k) (cC (Zsn.ok k) (cC (Zdd.ok k) cN)))) Tryz.func81
def Zsl (a1:G26):Option (List Str×List Zq):=Ya (Zt 16 [] a1.1) fun v2=>Ya (Zt 24 [] a1.2) fun v3=>some (v2,v3)
def Zsl.con (k:Nat):Con:=Sig.con { ps:=[.val true T26 (ros T26)],rs:=[.val true [.own 9 .str,.own 195 Zo]],ntmps:=12 } (fun x=>Zsl x)
theorem Zsl.ok (k:Nat):Ze Yb 99 (Zsl.con k):=fA (cXr true false cN) Tryz.func99
def Ztl (a1:Int):Option (List Str×List Zq×Str×Int):=some ([],[],[],a1)
def Ztl.con (k:Nat):Con:=Sig.con { ps:=[.val false (.int .i64) (ros (.int .i64))],rs:=[.val true [.own 9 .str,.own 195 Zo,.v .str,.v (.int .i64)]],ntmps:=5 } (fun x=>Ztl x)
theorem Ztl.ok (k:Nat):Ze Yb 102 (Ztl.con k):=fA (cX cN) Tryz.func102
def Zmg.l0:Nat→List Str→List Zq→Int→List Str→List Zq→Option ((List Str×List Zq))
 | 0,_,_,_,_,_=>none
 | j+1,a1,a2,a3,a4,a5=>bif decide (a3<((a2.length):Int)) then Ya (at? a2 a3) fun v6=>Ya (at? a2 a3) fun v7=>let e8:=at? a4 v6.1;Ya (e8) fun v9=>Ya (e8) fun v10=>Zmg.l0 j a1 a2 (Yc .i64 (a3+1)) (Ye a4 (Yd v6.1) v7.2) a5 else some (a4,a5)
def Zmg (k:Nat) (a1:G26):Option (List Str×List Zq):=Ya (Zt 16 [] a1.1) fun v2=>Ya (Zmg.l0 k a1.1 a1.2 0 v2 []) fun y3=>some (y3.1,y3.2)
def Zmg.con (k:Nat):Con:=Sig.con { ps:=[.val true T26 (ros T26)],rs:=[.val true [.own 9 .str,.own 195 Zo]],ntmps:=33 } (fun x=>Zmg k x)
def Zmg.cok (k:Nat):=cXr true false cN
def Zmg.l0.s (k:Nat):Summ:=lp 33 { tmps:=[(1,.eptr [.bor .str,.bor Zo]),(3,.one (.ptr 3 0)),(4,.one (.v (.int .i64)))],slots:=[(3,.box 26 [.own 4,.own 5]),(4,.arr false 9 .str),(5,.arr false 195 Zo)],nb:=6 } [(.exit 0,{ tmps:=[],slots:=[(3,.box 26 [.own 6,.own 7]),(6,.arr false 9 .str),(7,.arr false 195 Zo)],nb:=8 })] (fun j x=>Zmg.l0 j x.1 x.2.1 x.2.2.1 x.2.2.2.1 x.2.2.2.2) k
def Zmg.l0.ok (k:Nat):=(lA (Zmg.cok k):Zj Yb _ (.loop (cO (cO (cR (cL (cR (cR (cB Tryz.f188)))))))) (Zmg.l0.s k))
theorem Zmg.ok (k:Nat):Ze Yb 188 (Zmg.con k):=fP (.two .auto (.two .auto (.two (.two .auto (.one (.sum (Zmg.l0.s k)))) .auto))) (Zmg.cok k) Tryz.func188 (sC (Zmg.l0.ok k) sN)
def Zor (k:Nat) (a1:G26):Option (List Str×List Zq×Str×Int):=Ya (Z1 k a1) fun v2=>bif !v2 then Ya (Ztl 1) fun v3=>some (v3.1,v3.2.1,v3.2.2.1,v3.2.2.2) else Ya (Zmg k a1) fun v4=>some (v4.1,v4.2,[],0)
def Zor.con (k:Nat):Con:=Sig.con { ps:=[.val true T26 (ros T26)],rs:=[.val true [.own 9 .str,.own 195 Zo,.v .str,.v (.int .i64)]],ntmps:=10 } (fun x=>Zor k x)
theorem Zor.ok (k:Nat):Ze Yb 100 (Zor.con k):=fA (cXr true false (cC (Ztl.ok k) (cC (Z1.ok k) (cC (Zmg.ok k) cN)))) Tryz.func100
def Zag.l0:Nat→Int→Str→Int→List Str→List Zq→List Str→List Zq→Option ((List Str×List Zq×List Str×List Zq) ⊕ (List Str×List Zq))
 | 0,_,_,_,_,_,_,_=>none
 | j+1,a1,a2,a3,a4,a5,a6,a7=>bif decide (a3<((a7.length):Int)) then Ya (at? a7 a3) fun v8=>Ya (at? a7 a3) fun v9=>bif v9.1==a1 then Ya (at? a7 a3) fun v10=>Ya (at? a7 a3) fun v11=>some (.inr (a6,Ye a7 (Yd a3) (v11.1,a2))) else Zag.l0 j a1 a2 (Yc .i64 (a3+1)) a4 a5 a6 a7 else some (.inl (a4,a5,a6,a7))
def Zag (k:Nat) (a1:G26) (a2:Int) (a3:Str):Option (List Str×List Zq):=Ya (Zsl a1) fun v4=>Ya (Zag.l0 k a2 a3 0 [] [] v4.1 v4.2) fun
  | .inl y5=>Ya (Zt 24 y5.2.2.2 [(a2,a3)]) fun v6=>some (y5.2.2.1,v6)
  | .inr y7=>some (y7.1,y7.2)
def Zag.con (k:Nat):Con:=Sig.con { ps:=[.val true T26 (ros T26),.val false (.int .i64) (ros (.int .i64)),.val false .str (ros .str)],rs:=[.val true [.own 9 .str,.own 195 Zo]],ntmps:=42 } (fun x=>Zag k x.1 x.2.1 x.2.2)
def Zag.cok (k:Nat):=cXr true false (cC (Zsl.ok k) cN)
def Zag.l0.s (k:Nat):Summ:=lp 42 { tmps:=[(1,.one (.v (.int .i64))),(2,.one (.v .str)),(6,.one (.ptr 0 0)),(7,.one (.ptr 3 0)),(8,.one (.v (.int .i64)))],slots:=[(0,.box 26 [.own 4,.own 5]),(3,.box 26 [.own 6,.own 7]),(4,.arr false 9 .str),(5,.arr false 195 Zo),(6,.arr false 9 .str),(7,.arr false 195 Zo)],nb:=8 } [(.exit 0,{ tmps:=[],slots:=[(0,.box 26 [.own 8,.own 9]),(3,.box 26 [.own 10,.own 11]),(8,.arr false 9 .str),(9,.arr false 195 Zo),(10,.arr false 9 .str),(11,.arr false 195 Zo)],nb:=12 }),(.ret,{ tmps:=[],slots:=[(0,.box 26 [.own 8,.own 9]),(3,.box 26 [.own 8,.own 9]),(8,.arr false 9 .str),(9,.arr false 195 Zo)],nb:=10 })] (fun j x=>Zag.l0 j x.1 x.2.1 x.2.2.1 x.2.2.2.1 x.2.2.2.2.1 x.2.2.2.2.2.1 x.2.2.2.2.2.2) k
def Zag.l0.ok (k:Nat):=(lA (Zag.cok k):Zj Yb _ (.loop (cO (cO (cR (cL (cR (cR (cB Tryz.f189)))))))) (Zag.l0.s k))
theorem Zag.ok (k:Nat):Ze Yb 189 (Zag.con k):=fP (.two .auto (.two .auto (.two (.two .auto (.one (.sum (Zag.l0.s k)))) .auto))) (Zag.cok k) Tryz.func189 (sC (Zag.l0.ok k) sN)
def Zpr (k:Nat) (a1:G26) (a2:Int) (a3:Str):Option (List Str×List Zq×Str×Int):=bif decide (8000<((a3.length):Int)) then Ya (Ztl 2) fun v4=>some (v4.1,v4.2.1,v4.2.2.1,v4.2.2.2) else Ya (Z1 k a1) fun v5=>bif (!v5)||(decide (96<((a3.length):Int))) then Ya (Ztl 1) fun v6=>some (v6.1,v6.2.1,v6.2.2.1,v6.2.2.2) else Ya (Z7 a2 0 (Yc .i64 (((a1.1.length):Int)-1))) fun v7=>bif !v7 then Ya (Ztl 8) fun v8=>some (v8.1,v8.2.1,v8.2.2.1,v8.2.2.2) else Ya (Zag k a1 a2 a3) fun v9=>some (v9.1,v9.2,[],0)
def Zpr.con (k:Nat):Con:=Sig.con { ps:=[.val true T26 (ros T26),.val false (.int .i64) (ros (.int .i64)),.val false .str (ros .str)],rs:=[.val true [.own 9 .str,.own 195 Zo,.v .str,.v (.int .i64)]],ntmps:=33 } (fun x=>Zpr k x.1 x.2.1 x.2.2)
theorem Zpr.ok (k:Nat):Ze Yb 101 (Zpr.con k):=fA (cXr true false (cC (Z7.ok k) (cC (Ztl.ok k) (cC (Z1.ok k) (cC (Zag.ok k) cN))))) Tryz.func101
def Zid.l0 (k:Nat):Nat→List Zmc→Int→Str→Int→List Str→List Zq→Option ((Str×Int×List Str×List Zq))
 | 0,_,_,_,_,_,_=>none
 | j+1,a1,a2,a3,a4,a5,a6=>bif (decide (a2<((a1.length):Int)))&&(a4==0) then Ya (at? a1 a2) fun v7=>let e8:=Yc .i64 (a2+1);bif v7.1 then Ya (Zor k (a5,a6)) fun v9=>Zid.l0 k j a1 e8 v9.2.2.1 v9.2.2.2 v9.1 v9.2.1 else Ya (at? a1 a2) fun v10=>Ya (at? a1 a2) fun v11=>Ya (Zpr k (a5,a6) v10.2.1 v11.2.2) fun v12=>Zid.l0 k j a1 e8 v12.2.2.1 v12.2.2.2 v12.1 v12.2.1 else some (a3,a4,a5,a6)
def Zid (k:Nat) (a1:G26) (a2:List Zmc):Option (List Str×List Zq×Str×Int):=Ya (Zsl a1) fun v3=>Ya (Zid.l0 k k a2 0 [] 0 v3.1 v3.2) fun y4=>bif y4.2.1 != 0 then Ya (Ztl y4.2.1) fun v5=>some (v5.1,v5.2.1,v5.2.2.1,v5.2.2.2) else some (y4.2.2.1,y4.2.2.2,y4.1,y4.2.1)
def Zid.con (k:Nat):Con:=Sig.con { ps:=[.val true T26 (ros T26),.val false (.sl Z6b) (ros (.sl Z6b))],rs:=[.val true [.own 9 .str,.own 195 Zo,.v .str,.v (.int .i64)]],ntmps:=49 } (fun x=>Zid k x.1 x.2)
def Zid.cok (k:Nat):=cXr true false (cC (Zsl.ok k) (cC (Zor.ok k) (cC (Zpr.ok k) (cC (Ztl.ok k) cN))))
def Zid.l0.s (k:Nat):Summ:=lp 49 { tmps:=[(1,.one (.bor Z6b)),(5,.one (.ptr 3 0)),(6,.one (.v (.int .i64)))],slots:=[(3,.box 109 [.own 4,.own 5,.v .str,.v (.int .i64)]),(4,.arr false 9 .str),(5,.arr false 195 Zo)],nb:=6 } [(.exit 0,{ tmps:=[],slots:=[(3,.box 109 [.own 6,.own 7,.v .str,.v (.int .i64)]),(6,.arr false 9 .str),(7,.arr false 195 Zo)],nb:=8 })] (fun j x=>Zid.l0 k j x.1 x.2.1 x.2.2.1 x.2.2.2.1 x.2.2.2.2.1 x.2.2.2.2.2) k
def Zid.l0.ok (k:Nat):=(lA (Zid.cok k):Zj Yb _ (.loop (cO (cO (cR (cL (cR (cR (cB Tryz.f53)))))))) (Zid.l0.s k))
theorem Zid.ok (k:Nat):Ze Yb 53 (Zid.con k):=fP (.two .auto (.two .auto (.two (.two .auto (.one (.sum (Zid.l0.s k)))) .auto))) (Zid.cok k) Tryz.func53 (sC (Zid.l0.ok k) sN)
def Z6h (k:Nat) (a1:G28) (a2:G54):Option (Int):=Ya (Zkm k a1) fun v3=>bif !v3 then some 1 else Ya (Zsn a2) fun v4=>bif !v4 then some 1 else Ya (Zul k a1.2) fun v5=>bif decide (1000000≤v5.1) then some 9 else some 0
def Z6h.con (k:Nat):Con:=Sig.con { ps:=[.val true T28 (ros T28),.val true T54 (ros T54)],rs:=[.val false [.v (.int .i64)]],ntmps:=24 } (fun x=>Z6h k x.1 x.2)
theorem Z6h.ok (k:Nat):Ze Yb 69 (Z6h.con k):=fA (cXr true false (cC (Zkm.ok k) (cC (Zul.ok k) (cC (Zsn.ok k) cN)))) Tryz.func69
def Zug (a1:Int):Option (List Zmc×Str×List Int×Int):=some ([],[],[],a1)
def Zug.con (k:Nat):Con:=Sig.con { ps:=[.val false (.int .i64) (ros (.int .i64))],rs:=[.val true [.own 151 Z6b,.v .str,.own 2 (.int .i64),.v (.int .i64)]],ntmps:=5 } (fun x=>Zug x)
theorem Zug.ok (k:Nat):Ze Yb 151 (Zug.con k):=fA (cX cN) Tryz.func151
def Z2j (a1:G46):Option (Int×Int×Int×Int×Int×Str×List Int×List Int):=Ya (Zt 8 [] a1.2.2.2.2.2.2.1) fun v2=>Ya (Zt 8 [] a1.2.2.2.2.2.2.2) fun v3=>some (a1.1,a1.2.1,a1.2.2.1,a1.2.2.2.1,a1.2.2.2.2.1,a1.2.2.2.2.2.1,v2,v3)
def Z2j.con (k:Nat):Con:=Sig.con { ps:=[.val true T46 (ros T46)],rs:=[.val true [.v (.int .i64),.v (.int .i64),.v (.int .i64),.v (.int .i64),.v (.int .i64),.v .str,.own 2 (.int .i64),.own 2 (.int .i64)]],ntmps:=14 } (fun x=>Z2j x)
theorem Z2j.ok (k:Nat):Ze Yb 228 (Z2j.con k):=fA (cX cN) Tryz.func228
def Zvr (k:Nat) (a1:G26) (a2:Str):Option (List Zmc):=Ya (Zul k a1) fun v3=>bif decide (1000000≤v3.1) then some ([]) else let e4:=(true,(0,[]));bif v3.2.2.2 != 0 then Ya (Zuk k (Yc .i64 (v3.1+1)) a2) fun v5=>some ([(false,(0,v5)),e4]) else Ya (Zuk k (Yc .i64 (v3.1+1)) a2) fun v6=>some ([(false,(1,v6)),e4])
def Zvr.con (k:Nat):Con:=Sig.con { ps:=[.val true T26 (ros T26),.val false .str (ros .str)],rs:=[.val false [.own 151 Z6b]],ntmps:=28 } (fun x=>Zvr k x.1 x.2)
theorem Zvr.ok (k:Nat):Ze Yb 54 (Zvr.con k):=fA (cXr true false (cC (Zul.ok k) (cC (Zuk.ok k) cN))) Tryz.func54
def Z8e (k:Nat) (a1:G28) (a2:G46):Option (List Zmc):=Ya (Zom k a2) fun v3=>Ya (Zvr k a1.2 v3) fun v4=>some v4
def Z8e.con (k:Nat):Con:=Sig.con { ps:=[.val true T28 (ros T28),.val true T46 (ros T46)],rs:=[.val false [.own 151 Z6b]],ntmps:=10 } (fun x=>Z8e k x.1 x.2)
theorem Z8e.ok (k:Nat):Ze Yb 232 (Z8e.con k):=fA (cXr true false (cC (Zvr.ok k) (cC (Zom.ok k) cN))) Tryz.func232
def Zce.l0 (k:Nat):Nat→List Int→List Int→Int→List Int→Option ((List Int))
 | 0,_,_,_,_=>none
 | j+1,a1,a2,a3,a4=>bif decide (a3<24) then Ya (Zcd k a1 a3) fun v5=>let e6:=Yc .i64 (a3+1);bif !v5 then Ya (Zcd k a2 a3) fun v7=>bif !v7 then Ya (Zt 8 a4 [a3]) fun v8=>Zce.l0 k j a1 a2 e6 v8 else Zce.l0 k j a1 a2 e6 a4 else Zce.l0 k j a1 a2 e6 a4 else some a4
def Zce (k:Nat) (a1:List Int) (a2:List Int):Option (List Int):=Ya (Zce.l0 k k a1 a2 0 []) fun y3=>some y3
def Zce.con (k:Nat):Con:=Sig.con { ps:=[.val false (.sl (.int .i64)) (ros (.sl (.int .i64))),.val false (.sl (.int .i64)) (ros (.sl (.int .i64)))],rs:=[.val false [.own 2 (.int .i64)]],ntmps:=27 } (fun x=>Zce k x.1 x.2)
def Zce.cok (k:Nat):=cX (cC (Zcd.ok k) cN)
def Zce.l0.s (k:Nat):Summ:=lp 27 { tmps:=[(0,.one (.bor (.int .i64))),(1,.one (.bor (.int .i64))),(5,.one (.own 1)),(6,.one (.v (.int .i64)))],slots:=[(1,.arr false 2 (.int .i64))],nb:=2 } [(.exit 0,{ tmps:=[(5,.one (.own 2))],slots:=[(2,.arr false 2 (.int .i64))],nb:=3 })] (fun j x=>Zce.l0 k j x.1 x.2.1 x.2.2.1 x.2.2.2) k
def Zce.l0.ok (k:Nat):=(lA (Zce.cok k):Zj Yb _ (.loop (cO (cO (cR (cL (cR (cR (cB Tryz.f282)))))))) (Zce.l0.s k))
theorem Zce.ok (k:Nat):Ze Yb 282 (Zce.con k):=fP (.two .auto (.two .auto (.two (.two .auto (.one (.sum (Zce.l0.s k)))) .auto))) (Zce.cok k) Tryz.func282 (sC (Zce.l0.ok k) sN)
def Z5e.l0:Nat→List Int→Int→List Zyk→Option ((List Zyk))
 | 0,_,_,_=>none
 | j+1,a1,a2,a3=>bif decide (a2<((a1.length):Int)) then let e4:=Yc .i64 (a2+1);bif decide (0<a2) then Ya (at? a1 (Yc .i64 (a2-1))) fun v5=>Ya (at? a1 a2) fun v6=>bif (Yc .i64 (v5+1))==v6 then let e7:=Yc .i64 (((a3.length):Int)-1);let e8:=at? a3 e7;Ya (e8) fun v9=>Ya (e8) fun v10=>Ya (e8) fun v11=>Ya (e8) fun v12=>Z5e.l0 j a1 e4 (Ye a3 (Yd e7) (v12.1,(Yc .i64 (v10.2+1)))) else Ya (at? a1 a2) fun v13=>Ya (Zt 16 a3 [(v13,1)]) fun v14=>Z5e.l0 j a1 e4 v14 else Ya (at? a1 a2) fun v15=>Ya (Zt 16 a3 [(v15,1)]) fun v16=>Z5e.l0 j a1 e4 v16 else some a3
def Z5e (k:Nat) (a1:List Int):Option (List Zyk):=Ya (Z5e.l0 k a1 0 []) fun y2=>some y2
def Z5e.con (k:Nat):Con:=Sig.con { ps:=[.val false (.sl (.int .i64)) (ros (.sl (.int .i64)))],rs:=[.val false [.own 243 Zsi]],ntmps:=50 } (fun x=>Z5e k x)
def Z5e.cok (k:Nat):=cX cN
def Z5e.l0.s (k:Nat):Summ:=lp 50 { tmps:=[(0,.one (.bor (.int .i64))),(3,.one (.own 1)),(4,.one (.v (.int .i64)))],slots:=[(1,.arr false 243 Zsi)],nb:=2 } [(.exit 0,{ tmps:=[(3,.one (.own 2))],slots:=[(2,.arr false 243 Zsi)],nb:=3 })] (fun j x=>Z5e.l0 j x.1 x.2.1 x.2.2) k
def Z5e.l0.ok (k:Nat):=(lA (Z5e.cok k):Zj Yb _ (.loop (cO (cO (cR (cL (cR (cR (cB Tryz.f283)))))))) (Z5e.l0.s k))
theorem Z5e.ok (k:Nat):Ze Yb 283 (Z5e.con k):=fP (.two .auto (.two .auto (.two (.two .auto (.one (.sum (Z5e.l0.s k)))) .auto))) (Z5e.cok k) Tryz.func283 (sC (Z5e.l0.ok k) sN)
def Zcc.l0:Nat→List Zyk→Int→Int→List Int→Option ((List Int))
 | 0,_,_,_,_=>none
 | j+1,a1,a2,a3,a4=>Ya (at? a1 a2) fun v5=>Ya (at? a1 a2) fun v6=>bif decide (a3<(Yc .i64 (v5.1+v6.2))) then Ya (at? a4 a3) fun v7=>Ya (at? a4 a3) fun v8=>Ya (at? a4 a3) fun v9=>Ya (at? a4 a3) fun v10=>Zcc.l0 j a1 a2 (Yc .i64 (a3+1)) (Ye a4 (Yd a3) (Yc .i64 (v8+1))) else some a4
def Zcc.l1 (k:Nat):Nat→List Zyk→Int→Int→List Int→List Int→Option ((Int×List Int×List Int) ⊕ (Int×List Int))
 | 0,_,_,_,_,_=>none
 | j+1,a1,a2,a3,a4,a5=>bif decide (a2<((a1.length):Int)) then Ya (at? a1 a2) fun v6=>bif decide (v6.2<1) then some (.inr (1,[])) else Ya (at? a1 a2) fun v7=>bif decide (24<v7.2) then some (.inr (1,[])) else Ya (at? a1 a2) fun v8=>bif decide (v8.1<0) then some (.inr (1,[])) else Ya (at? a1 a2) fun v9=>Ya (at? a1 a2) fun v10=>bif decide ((Yc .i64 (24-v10.2))<v9.1) then some (.inr (1,[])) else Ya (at? a1 a2) fun v11=>Ya (Zcc.l0 k a1 a2 v11.1 a4) fun y12=>Zcc.l1 k j a1 (Yc .i64 (a2+1)) a3 y12 a5 else some (.inl (a3,a4,a5))
def Zcc.l2:Nat→Int→Int→List Int→List Int→List Int→Option ((Int×List Int×List Int) ⊕ (Int×List Int))
 | 0,_,_,_,_,_=>none
 | j+1,a1,a2,a3,a4,a5=>bif decide (a1<24) then Ya (at? a3 a1) fun v6=>Ya (at? a3 a1) fun v7=>bif decide (1<v7) then some (.inr (12,[])) else Ya (at? a3 a1) fun v8=>Ya (at? a3 a1) fun v9=>let e10:=Yc .i64 (a1+1);bif v9==1 then Ya (Zt 8 a4 [a1]) fun v11=>Zcc.l2 j e10 a2 a3 v11 a5 else Zcc.l2 j e10 a2 a3 a4 a5 else some (.inl (a2,a4,a5))
def Zcc (k:Nat) (a1:List Zyk):Option (List Int×Int):=bif decide (400<((a1.length):Int)) then some ([],2) else Ya (Z3g 8 24 24 0) fun v2=>Ya (Zcc.l1 k k a1 0 0 v2 []) fun
  | .inl y3=>Ya (Zcc.l2 k 0 y3.1 y3.2.1 [] y3.2.2) fun
    | .inl y4=>some (y4.2.1,0)
    | .inr y5=>some (y5.2,y5.1)
  | .inr y6=>some (y6.2,y6.1)
def Zcc.con (k:Nat):Con:=Sig.con { ps:=[.val false (.sl Zsi) (ros (.sl Zsi))],rs:=[.val true [.own 2 (.int .i64),.v (.int .i64)]],ntmps:=106 } (fun x=>Zcc k x)
def Zcc.cok (k:Nat):=cX cN
def Zcc.l0.s (k:Nat):Summ:=lp 106 { tmps:=[(0,.one (.bor Zsi)),(3,.one (.own 4)),(4,.one (.v (.int .i64))),(5,.one (.v (.int .i64)))],slots:=[(4,.arr false 2 (.int .i64))],nb:=5 } [(.exit 2,{ tmps:=[(3,.one (.own 5))],slots:=[(5,.arr false 2 (.int .i64))],nb:=6 })] (fun j x=>Zcc.l0 j x.1 x.2.1 x.2.2.1 x.2.2.2) k
def Zcc.l0.ok (k:Nat):=(lA (Zcc.cok k):Zj Yb _ (.loop (cO (cO (cR (cR (cO (cL (cR (cO (cO (cR (cL (cR (cR (cR (cB Yi)))))))))))))))) (Zcc.l0.s k))
def Zcc.l1.s (k:Nat):Summ:=lp 106 { tmps:=[(0,.one (.bor Zsi)),(2,.one (.ptr 0 0)),(3,.one (.own 2)),(4,.one (.v (.int .i64)))],slots:=[(0,.box 254 [.own 3,.v (.int .i64)]),(2,.arr false 2 (.int .i64)),(3,.arr false 2 (.int .i64))],nb:=4 } [(.exit 0,{ tmps:=[(3,.one (.own 4))],slots:=[(0,.box 254 [.own 5,.v (.int .i64)]),(4,.arr false 2 (.int .i64)),(5,.arr false 2 (.int .i64))],nb:=6 }),(.ret,{ tmps:=[],slots:=[(0,.box 254 [.own 4,.v (.int .i64)]),(4,.arr false 2 (.int .i64))],nb:=5 })] (fun j x=>Zcc.l1 k j x.1 x.2.1 x.2.2.1 x.2.2.2.1 x.2.2.2.2) k
def Zcc.l1.ok (k:Nat):=(lP (.two .auto (.two (.one (.two .auto (.two .auto (.one (.sum (Zcc.l0.s k)))))) .auto)) (Zcc.cok k) (sC (Zcc.l0.ok k) sN):Zj Yb _ (.loop (cO (cO (cR (cL (cR (cR (cR (cB Yi))))))))) (Zcc.l1.s k))
def Zcc.l2.s (k:Nat):Summ:=lp 106 { tmps:=[(2,.one (.ptr 0 0)),(3,.one (.own 7)),(6,.one (.own 8)),(7,.one (.v (.int .i64)))],slots:=[(0,.box 254 [.own 9,.v (.int .i64)]),(7,.arr false 2 (.int .i64)),(8,.arr false 2 (.int .i64)),(9,.arr false 2 (.int .i64))],nb:=10 } [(.exit 4,{ tmps:=[(6,.one (.own 10))],slots:=[(0,.box 254 [.own 11,.v (.int .i64)]),(10,.arr false 2 (.int .i64)),(11,.arr false 2 (.int .i64))],nb:=12 }),(.ret,{ tmps:=[],slots:=[(0,.box 254 [.own 10,.v (.int .i64)]),(10,.arr false 2 (.int .i64))],nb:=11 })] (fun j x=>Zcc.l2 j x.1 x.2.1 x.2.2.1 x.2.2.2.1 x.2.2.2.2) k
def Zcc.l2.ok (k:Nat):=(lA (Zcc.cok k):Zj Yb _ (.loop (cO (cO (cR (cL (cR (cR (cR (cR (cR (cB Yi))))))))))) (Zcc.l2.s k))
theorem Zcc.ok (k:Nat):Ze Yb 284 (Zcc.con k):=fP (.two .auto (.two .auto (.two .auto (.two (.two .auto (.one (.sum (Zcc.l1.s k)))) (.two .auto (.two (.two .auto (.one (.sum (Zcc.l2.s k)))) .auto)))))) (Zcc.cok k) Tryz.func284 (sC (Zcc.l1.ok k) (sC (Zcc.l2.ok k) sN))
def Zur (a1:Int) (a2:Int):Option (Int):=bif decide (a2<a1) then some a1 else some a2
def Zur.con (k:Nat):Con:=Sig.con { ps:=[.val false (.int .i64) (ros (.int .i64)),.val false (.int .i64) (ros (.int .i64))],rs:=[.val false [.v (.int .i64)]],ntmps:=10 } (fun x=>Zur x.1 x.2)
theorem Zur.ok (k:Nat):Ze Yb 285 (Zur.con k):=fA (cX cN) Tryz.func285
def Z5c.l0 (k:Nat):Nat→Int→Int→Int→List Zyk→List Int→Option ((Int×List Int) ⊕ (List Int×Int))
 | 0,_,_,_,_,_=>none
 | j+1,a1,a2,a3,a4,a5=>bif decide (a2<((a4.length):Int)) then Ya (at? a4 a2) fun v6=>Ya (at? a4 a2) fun v7=>bif decide (a1≤v7.2) then Ya (at? a4 a2) fun v8=>Ya (at? a4 a2) fun v9=>Ya (Zur 1 a1) fun v10=>Ya (Zcc k [(v9.1,v10)]) fun v11=>Ya (Zpb v11.1 0 a1) fun v12=>some (.inr (v12,0)) else Z5c.l0 k j a1 (Yc .i64 (a2+1)) a3 a4 a5 else some (.inl (a3,a5))
def Z5c (k:Nat) (a1:List Int) (a2:List Int) (a3:Int):Option (List Int×Int):=Ya (Zce k a1 a2) fun v4=>bif decide (((v4.length):Int)<a3) then some ([],11) else Ya (Z5e k v4) fun v5=>Ya (Z5c.l0 k k a3 0 0 v5 []) fun
  | .inl y6=>Ya (Zpb v4 0 a3) fun v7=>some (v7,0)
  | .inr y8=>some (y8.1,y8.2)
def Z5c.con (k:Nat):Con:=Sig.con { ps:=[.val false (.sl (.int .i64)) (ros (.sl (.int .i64))),.val false (.sl (.int .i64)) (ros (.sl (.int .i64))),.val false (.int .i64) (ros (.int .i64))],rs:=[.val true [.v (.sl (.int .i64)),.v (.int .i64)]],ntmps:=51 } (fun x=>Z5c k x.1 x.2.1 x.2.2)
def Z5c.cok (k:Nat):=cX (cC (Zce.ok k) (cC (Z5e.ok k) (cC (Zcc.ok k) (cC (Zur.ok k) cN))))
def Z5c.l0.s (k:Nat):Summ:=lp 51 { tmps:=[(2,.one (.v (.int .i64))),(6,.one (.ptr 0 0)),(8,.one (.own 3)),(9,.one (.v (.int .i64)))],slots:=[(0,.box 254 [.own 4,.v (.int .i64)]),(3,.arr false 243 Zsi),(4,.arr false 2 (.int .i64))],nb:=5 } [(.exit 0,{ tmps:=[],slots:=[(0,.box 254 [.own 5,.v (.int .i64)]),(5,.arr false 2 (.int .i64))],nb:=6 }),(.ret,{ tmps:=[],slots:=[(0,.box 254 [.v (.sl (.int .i64)),.v (.int .i64)])],nb:=5 })] (fun j x=>Z5c.l0 k j x.1 x.2.1 x.2.2.1 x.2.2.2.1 x.2.2.2.2) k
def Z5c.l0.ok (k:Nat):=(lA (Z5c.cok k):Zj Yb _ (.loop (cO (cO (cR (cL (cR (cR (cR (cR (cB Tryz.f237)))))))))) (Z5c.l0.s k))
theorem Z5c.ok (k:Nat):Ze Yb 237 (Z5c.con k):=fP (.two .auto (.two .auto (.two .auto (.two .auto (.two (.two .auto (.one (.sum (Z5c.l0.s k)))) .auto))))) (Z5c.cok k) Tryz.func237 (sC (Z5c.l0.ok k) sN)
def Z7e.l0:Nat→Int→List Str→List Zq→Int→List Int→Int→Str→Int→List Zmc→List Int→Option ((List Int×Int×Str×Int×List Zmc×List Int))
 | 0,_,_,_,_,_,_,_,_,_,_=>none
 | j+1,a1,a2,a3,a4,a5,a6,a7,a8,a9,a10=>bif decide (a4<((a5.length):Int)) then Ya (at? a5 a4) fun v11=>Ya (Zfh (a1,(a2,a3)) v11) fun v12=>Ya (Zt 32 a9 ([(false,(v12,[]))])) fun v13=>Z7e.l0 j a1 a2 a3 (Yc .i64 (a4+1)) a5 a6 a7 a8 v13 a10 else some (a5,a6,a7,a8,a9,a10)
def Z7e (k:Nat) (a1:G28) (a2:G46) (a3:G54):Option (List Zmc×Str×List Int×Int):=bif a2.1 != 1 then Ya (Zug 10) fun v4=>some (v4.1,v4.2.1,v4.2.2.1,v4.2.2.2) else Ya (Z5c k a2.2.2.2.2.2.2.1 [] (Yc .i64 (a3.2.1+a3.2.2.1))) fun v5=>bif v5.2 != 0 then Ya (Zug v5.2) fun v6=>some (v6.1,v6.2.1,v6.2.2.1,v6.2.2.2) else Ya (Z7e.l0 k a1.1 a1.2.1 a1.2.2 0 v5.1 v5.2 [] 0 [] []) fun y7=>Ya (Zt 32 y7.2.2.2.2.1 ([(true,(0,[]))])) fun v8=>Ya (Z8e k a1 (2,(0,(a3.2.1,(a3.2.2.1,(0,(a3.2.2.2.1,(a2.2.2.2.2.2.2.1,y7.1)))))))) fun v9=>Ya (Zt 32 v8 v9) fun v10=>some (v10,y7.2.2.1,y7.2.2.2.2.2,y7.2.2.2.1)
def Z7e.con (k:Nat):Con:=Sig.con { ps:=[.val true T28 (ros T28),.val true T46 (ros T46),.val true T54 (ros T54)],rs:=[.val true [.own 151 Z6b,.v .str,.own 2 (.int .i64),.v (.int .i64)]],ntmps:=75 } (fun x=>Z7e k x.1 x.2.1 x.2.2)
def Z7e.cok (k:Nat):=cXr true false (cC (Zug.ok k) (cC (Z8e.ok k) (cC (Z5c.ok k) (cC (Zfh.ok k) cN))))
def Z7e.l0.s (k:Nat):Summ:=lp 75 { tmps:=[(3,.eptr [.v (.int .i64),.bor .str,.bor Zo]),(7,.one (.ptr 2 0)),(8,.one (.ptr 3 0)),(9,.one (.v (.int .i64)))],slots:=[(2,.box 254 [.v (.sl (.int .i64)),.v (.int .i64)]),(3,.box 121 [.own 4,.v .str,.own 5,.v (.int .i64)]),(4,.arr false 151 Z6b),(5,.arr false 2 (.int .i64))],nb:=6 } [(.exit 0,{ tmps:=[],slots:=[(2,.box 254 [.v (.sl (.int .i64)),.v (.int .i64)]),(3,.box 121 [.own 6,.v .str,.own 7,.v (.int .i64)]),(6,.arr false 151 Z6b),(7,.arr false 2 (.int .i64))],nb:=8 })] (fun j x=>Z7e.l0 j x.1 x.2.1 x.2.2.1 x.2.2.2.1 x.2.2.2.2.1 x.2.2.2.2.2.1 x.2.2.2.2.2.2.1 x.2.2.2.2.2.2.2.1 x.2.2.2.2.2.2.2.2.1 x.2.2.2.2.2.2.2.2.2) k
def Z7e.l0.ok (k:Nat):=(lA (Z7e.cok k):Zj Yb _ (.loop (cO (cO (cR (cL (cR (cR (cR (cR (cR (cB Tryz.f229))))))))))) (Z7e.l0.s k))
theorem Z7e.ok (k:Nat):Ze Yb 229 (Z7e.con k):=fP (.two .auto (.two .auto (.two .auto (.two .auto (.two .auto (.two (.two .auto (.one (.sum (Z7e.l0.s k)))) .auto)))))) (Z7e.cok k) Tryz.func229 (sC (Z7e.l0.ok k) sN)
def Zzr (k:Nat) (a1:G28) (a2:G46) (a3:G54):Option (List Zmc×Str×List Int×Int):=bif a2.1 != 2 then Ya (Zug 10) fun v4=>some (v4.1,v4.2.1,v4.2.2.1,v4.2.2.2) else Ya (Zjc k a1 a2) fun v5=>bif decide (a2.2.2.1≤((v5.length):Int)) then Ya (Zug 9) fun v6=>some (v6.1,v6.2.1,v6.2.2.1,v6.2.2.2) else Ya (Zt 40 [] v5) fun v7=>Ya (Zt 40 v7 [a3.2.2.2.2]) fun v8=>Ya (Zu k v8 a1.1) fun v9=>bif v9 != 0 then Ya (Zug v9) fun v10=>some (v10.1,v10.2.1,v10.2.2.1,v10.2.2.2) else Ya (at? a2.2.2.2.2.2.2.2 (Yc .i64 (a2.2.2.2.1+((v5.length):Int)))) fun v11=>Ya (Zfh a1 v11) fun v12=>Ya (Zol k ((v5.length):Int) a3.2.2.2.2) fun v13=>let e14:=[(false,(v12,v13))];bif a3.2.2.2.2.1==5 then Ya (Zt 32 e14 ([(true,(0,[]))])) fun v15=>some (v15,[],[],0) else some (e14,[],[],0)
def Zzr.con (k:Nat):Con:=Sig.con { ps:=[.val true T28 (ros T28),.val true T46 (ros T46),.val true T54 (ros T54)],rs:=[.val true [.own 151 Z6b,.v .str,.own 2 (.int .i64),.v (.int .i64)]],ntmps:=67 } (fun x=>Zzr k x.1 x.2.1 x.2.2)
theorem Zzr.ok (k:Nat):Ze Yb 230 (Zzr.con k):=fA (cXr true false (cC (Zu.ok k) (cC (Zug.ok k) (cC (Zjc.ok k) (cC (Zfh.ok k) (cC (Zol.ok k) cN)))))) Tryz.func230
def Zrv:Option (List Int):=some ([1779033703,3144134277,1013904242,2773480762,1359893119,2600822924,528734635,1541459225])
def Zrv.con (k:Nat):Con:=Sig.con { ps:=[],rs:=[.val false [.own 2 (.int .i64)]],ntmps:=2 } (fun x=>Zrv )
theorem Zrv.ok (k:Nat):Ze Yb 252 (Zrv.con k):=fA (cX cN) Tryz.func252
def Zki (a1:Int) (a2:Int):Option (Int):=Ya (Zwb a2) fun v3=>let e4:=Yc .u64 (32-a2);Ya (Zwb e4) fun v5=>some (intBits .or .u32 (shr .u32 a1 a2) (shl .u32 a1 e4))
def Zki.con (k:Nat):Con:=Sig.con { ps:=[.val false (.int .u32) (ros (.int .u32)),.val false (.int .u64) (ros (.int .u64))],rs:=[.val false [.v (.int .u32)]],ntmps:=13 } (fun x=>Zki x.1 x.2)
theorem Zki.ok (k:Nat):Ze Yb 290 (Zki.con k):=fA (cX cN) Tryz.func290
def Zrt:Option (List Int):=some ([1116352408,1899447441,3049323471,3921009573,961987163,1508970993,2453635748,2870763221,3624381080,310598401,607225278,1426881987,1925078388,2162078206,2614888103,3248222580,3835390401,4022224774,264347078,604807628,770255983,1249150122,1555081692,1996064986,2554220882,2821834349,2952996808,3210313671,3336571891,3584528711,113926993,338241895,666307205,773529912,1294757372,1396182291,1695183700,1986661051,2177026350,2456956037,2730485921,2820302411,3259730800,3345764771,3516065817,3600352804,4094571909,275423344,430227734,506948616,659060556,883997877,958139571,1322822218,1537002063,1747873779,1955562222,2024104815,2227730452,2361852424,2428436474,2756734187,3204031479,3329325298])
def Zrt.con (k:Nat):Con:=Sig.con { ps:=[],rs:=[.val false [.own 297 (.int .u32)]],ntmps:=2 } (fun x=>Zrt )
theorem Zrt.ok (k:Nat):Ze Yb 291 (Zrt.con k):=fA (cX cN) Tryz.func291
def Zab.l0:Nat→Str→Int→List Int→Option ((List Int))
 | 0,_,_,_=>none
 | j+1,a1,a2,a3=>bif decide (a2<16) then let e4:=Yc .i64 (4*a2);Ya (at? a1 e4) fun v5=>Ya (Zwb 24) fun v6=>Ya (at? a1 (Yc .i64 (e4+1))) fun v7=>Ya (Zwb 16) fun v8=>Ya (at? a1 (Yc .i64 (e4+2))) fun v9=>Ya (Zwb 8) fun v10=>Ya (at? a1 (Yc .i64 (e4+3))) fun v11=>Ya (at? a3 a2) fun v12=>Ya (at? a3 a2) fun v13=>Zab.l0 j a1 (Yc .i64 (a2+1)) (Ye a3 (Yd a2) (intBits .or .u32 (intBits .or .u32 (intBits .or .u32 (shl .u32 (Yc .u32 (v5.toNat:Int)) 24) (shl .u32 (Yc .u32 (v7.toNat:Int)) 16)) (shl .u32 (Yc .u32 (v9.toNat:Int)) 8)) (Yc .u32 (v11.toNat:Int)))) else some a3
def Zab.l1:Nat→Int→List Int→Option ((List Int))
 | 0,_,_=>none
 | j+1,a1,a2=>bif decide (a1<64) then let e3:=at? a2 (Yc .i64 (a1-15));Ya (e3) fun v4=>Ya (e3) fun v5=>let e6:=at? a2 (Yc .i64 (a1-2));Ya (e6) fun v7=>Ya (e6) fun v8=>let e9:=at? a2 (Yc .i64 (a1-16));Ya (e9) fun v10=>Ya (e9) fun v11=>Ya (Zki v5 7) fun v12=>Ya (Zki v5 18) fun v13=>Ya (Zwb 3) fun v14=>let e15:=at? a2 (Yc .i64 (a1-7));Ya (e15) fun v16=>Ya (e15) fun v17=>Ya (Zki v8 17) fun v18=>Ya (Zki v8 19) fun v19=>Ya (Zwb 10) fun v20=>Ya (at? a2 a1) fun v21=>Ya (at? a2 a1) fun v22=>Zab.l1 j (Yc .i64 (a1+1)) (Ye a2 (Yd a1) (Yc .u32 ((Yc .u32 ((Yc .u32 (v11+(intBits .xor .u32 (intBits .xor .u32 v12 v13) (shr .u32 v5 3))))+v17))+(intBits .xor .u32 (intBits .xor .u32 v18 v19) (shr .u32 v8 10))))) else some a2
def Zab.l2:Nat→Int→Int→Int→Int→Int→Int→Int→Int→Int→List Int→List Int→Option ((Int×Int×Int×Int×Int×Int×Int×Int))
 | 0,_,_,_,_,_,_,_,_,_,_,_=>none
 | j+1,a1,a2,a3,a4,a5,a6,a7,a8,a9,a10,a11=>bif decide (a9<64) then Ya (Zki a5 6) fun v12=>Ya (Zki a5 11) fun v13=>Ya (Zki a5 25) fun v14=>Ya (at? a11 a9) fun v15=>Ya (at? a11 a9) fun v16=>Ya (at? a10 a9) fun v17=>Ya (at? a10 a9) fun v18=>Ya (Zki a1 2) fun v19=>Ya (Zki a1 13) fun v20=>Ya (Zki a1 22) fun v21=>let e22:=Yc .u32 ((Yc .u32 ((Yc .u32 ((Yc .u32 (a8+(intBits .xor .u32 (intBits .xor .u32 v12 v13) v14)))+(intBits .xor .u32 (intBits .and .u32 a5 a6) (intBits .and .u32 (intBits .xor .u32 (IntKind.max .u32) a5) a7))))+v16))+v18);Zab.l2 j (Yc .u32 (e22+(Yc .u32 ((intBits .xor .u32 (intBits .xor .u32 v19 v20) v21)+(intBits .xor .u32 (intBits .xor .u32 (intBits .and .u32 a1 a2) (intBits .and .u32 a1 a3)) (intBits .and .u32 a2 a3)))))) a1 a2 a3 (Yc .u32 (a4+e22)) a5 a6 a7 (Yc .i64 (a9+1)) a10 a11 else some (a1,a2,a3,a4,a5,a6,a7,a8)
def Zab.l3:Nat→List Int→Int→List Int→List Int→Option ((List Int))
 | 0,_,_,_,_=>none
 | j+1,a1,a2,a3,a4=>bif decide (a2<8) then Ya (at? a1 a2) fun v5=>Ya (at? a3 a2) fun v6=>Ya (at? a3 a2) fun v7=>Ya (Zt 8 a4 [(Yc .i64 (Yc .u32 ((Yc .u32 v5)+v7)))]) fun v8=>Zab.l3 j a1 (Yc .i64 (a2+1)) a3 v8 else some a4
def Zab (k:Nat) (a1:List Int) (a2:Str):Option (List Int):=Ya (Z3g 4 64 64 0) fun v3=>Ya (Zab.l0 k a2 0 v3) fun y4=>Ya (Zab.l1 k 16 y4) fun y5=>Ya (at? a1 0) fun v6=>Ya (at? a1 1) fun v7=>Ya (at? a1 2) fun v8=>Ya (at? a1 3) fun v9=>Ya (at? a1 4) fun v10=>Ya (at? a1 5) fun v11=>Ya (at? a1 6) fun v12=>Ya (at? a1 7) fun v13=>Ya (Zrt ) fun v14=>Ya (Zab.l2 k (Yc .u32 v6) (Yc .u32 v7) (Yc .u32 v8) (Yc .u32 v9) (Yc .u32 v10) (Yc .u32 v11) (Yc .u32 v12) (Yc .u32 v13) 0 y5 v14) fun y15=>Ya (Zab.l3 k a1 0 [y15.1,y15.2.1,y15.2.2.1,y15.2.2.2.1,y15.2.2.2.2.1,y15.2.2.2.2.2.1,y15.2.2.2.2.2.2.1,y15.2.2.2.2.2.2.2] []) fun y16=>some y16
def Zab.con (k:Nat):Con:=Sig.con { ps:=[.val false (.sl (.int .i64)) (ros (.sl (.int .i64))),.val false .str (ros .str)],rs:=[.val false [.own 2 (.int .i64)]],ntmps:=235 } (fun x=>Zab k x.1 x.2)
def Zab.cok (k:Nat):=cX (cC (Zki.ok k) (cC (Zrt.ok k) cN))
def Zab.l0.s (k:Nat):Summ:=lp 235 { tmps:=[(1,.one (.v .str)),(5,.one (.own 1)),(6,.one (.v (.int .i64)))],slots:=[(1,.arr false 297 (.int .u32))],nb:=2 } [(.exit 0,{ tmps:=[(5,.one (.own 2))],slots:=[(2,.arr false 297 (.int .u32))],nb:=3 })] (fun j x=>Zab.l0 j x.1 x.2.1 x.2.2) k
def Zab.l0.ok (k:Nat):=(lA (Zab.cok k):Zj Yb _ (.loop (cO (cO (cR (cL (cR (cR (cB Yg)))))))) (Zab.l0.s k))
def Zab.l1.s (k:Nat):Summ:=lp 235 { tmps:=[(5,.one (.own 3)),(7,.one (.v (.int .i64)))],slots:=[(3,.arr false 297 (.int .u32))],nb:=4 } [(.exit 2,{ tmps:=[(5,.one (.own 4))],slots:=[(4,.arr false 297 (.int .u32))],nb:=5 })] (fun j x=>Zab.l1 j x.1 x.2) k
def Zab.l1.ok (k:Nat):=(lA (Zab.cok k):Zj Yb _ (.loop (cO (cO (cR (cL (cR (cR (cR (cB Yg))))))))) (Zab.l1.s k))
def Zab.l2.s (k:Nat):Summ:=lp 235 { tmps:=[(5,.one (.own 6)),(10,.one (.v (.int .u32))),(11,.one (.v (.int .u32))),(12,.one (.v (.int .u32))),(13,.one (.v (.int .u32))),(14,.one (.v (.int .u32))),(15,.one (.v (.int .u32))),(16,.one (.v (.int .u32))),(17,.one (.v (.int .u32))),(18,.one (.own 7)),(19,.one (.v (.int .i64)))],slots:=[(6,.arr false 297 (.int .u32)),(7,.arr false 297 (.int .u32))],nb:=8 } [(.exit 4,{ tmps:=[(10,.one (.v (.int .u32))),(11,.one (.v (.int .u32))),(12,.one (.v (.int .u32))),(13,.one (.v (.int .u32))),(14,.one (.v (.int .u32))),(15,.one (.v (.int .u32))),(16,.one (.v (.int .u32))),(17,.one (.v (.int .u32)))],slots:=[],nb:=8 })] (fun j x=>Zab.l2 j x.1 x.2.1 x.2.2.1 x.2.2.2.1 x.2.2.2.2.1 x.2.2.2.2.2.1 x.2.2.2.2.2.2.1 x.2.2.2.2.2.2.2.1 x.2.2.2.2.2.2.2.2.1 x.2.2.2.2.2.2.2.2.2.1 x.2.2.2.2.2.2.2.2.2.2) k
def Zab.l2.ok (k:Nat):=(lA (Zab.cok k):Zj Yb _ (.loop (cO (cO (cR (cL (cR (cR (cR (cR (cR (cR (cR (cB Yg))))))))))))) (Zab.l2.s k))
def Zab.l3.s (k:Nat):Summ:=lp 235 { tmps:=[(0,.one (.bor (.int .i64))),(22,.one (.own 10)),(23,.one (.own 11)),(24,.one (.v (.int .i64)))],slots:=[(10,.arr false 297 (.int .u32)),(11,.arr false 2 (.int .i64))],nb:=12 } [(.exit 6,{ tmps:=[(23,.one (.own 12))],slots:=[(12,.arr false 2 (.int .i64))],nb:=13 })] (fun j x=>Zab.l3 j x.1 x.2.1 x.2.2.1 x.2.2.2) k
def Zab.l3.ok (k:Nat):=(lA (Zab.cok k):Zj Yb _ (.loop (cO (cO (cR (cL (cR (cR (cR (cR (cR (cR (cR (cR (cR (cR (cB Yg)))))))))))))))) (Zab.l3.s k))
theorem Zab.ok (k:Nat):Ze Yb 253 (Zab.con k):=fP (.two .auto (.two .auto (.two (.two .auto (.one (.sum (Zab.l0.s k)))) (.two (.two .auto (.one (.sum (Zab.l1.s k)))) (.two .auto (.two .auto (.two .auto (.two (.two .auto (.one (.sum (Zab.l2.s k)))) (.two .auto (.two .auto (.two (.two .auto (.one (.sum (Zab.l3.s k)))) .auto))))))))))) (Zab.cok k) Tryz.func253 (sC (Zab.l0.ok k) (sC (Zab.l1.ok k) (sC (Zab.l2.ok k) (sC (Zab.l3.ok k) sN))))
def Z6.l0:Nat→List Int→Option ((List Int))
 | 0,_=>none
 | j+1,a1=>Ya (nz? 64) fun v2=>bif (Int.tmod ((a1.length):Int) 64) != 56 then Ya (Zt 1 a1 [0]) fun v3=>Z6.l0 j v3 else some a1
def Z6.l1:Nat→Int→Int→List Int→Option ((List Int))
 | 0,_,_,_=>none
 | j+1,a1,a2,a3=>bif decide (0≤a2) then Ya (Zwb (Yc .u64 a2)) fun v4=>Ya (Zt 1 a3 [(Yc .u8 (shr .u64 a1 (Yc .u64 a2)))]) fun v5=>Z6.l1 j a1 (Yc .i64 (a2-8)) v5 else some a3
def Z6.l2 (k:Nat):Nat→List Int→Int→List Int→Option ((List Int))
 | 0,_,_,_=>none
 | j+1,a1,a2,a3=>bif decide (a2<((a1.length):Int)) then let e4:=Yc .i64 (a2+64);Ya (Zpb a1 a2 e4) fun v5=>Ya (Zab k a3 (Zob v5)) fun v6=>Z6.l2 k j a1 e4 v6 else some a3
def Z6.l3:Nat→Int→List Int→List Int→Option ((List Int))
 | 0,_,_,_=>none
 | j+1,a1,a2,a3=>bif decide (a1<8) then Ya (at? a2 a1) fun v4=>Ya (at? a2 a1) fun v5=>Ya (Zwb 24) fun v6=>Ya (Zwb 16) fun v7=>Ya (Zwb 8) fun v8=>Ya (Zt 1 a3 [(Yc .u8 (shr .i64 v5 24)),(Yc .u8 (shr .i64 v5 16)),(Yc .u8 (shr .i64 v5 8)),(Yc .u8 v5)]) fun v9=>Z6.l3 j (Yc .i64 (a1+1)) a2 v9 else some a3
def Z6 (k:Nat) (a1:Str):Option (Str):=Ya (Z4x (a1.length) 1) fun v2=>Ya (Zt 1 (Zhb a1) [128]) fun v3=>Ya (Z6.l0 k v3) fun y4=>Ya (Z6.l1 k (Yc .u64 (Yc .i64 (8*((a1.length):Int)))) 56 y4) fun y5=>Ya (Zrv ) fun v6=>Ya (Z6.l2 k k y5 0 v6) fun y7=>Ya (Z6.l3 k 0 y7 []) fun y8=>some (Zob y8)
def Z6.con (k:Nat):Con:=Sig.con { ps:=[.val false .str (ros .str)],rs:=[.val false [.v .str]],ntmps:=78 } (fun x=>Z6 k x)
def Z6.cok (k:Nat):=cX (cC (Zrv.ok k) (cC (Zab.ok k) cN))
def Z6.l0.s (k:Nat):Summ:=lp 78 { tmps:=[(3,.one (.own 3))],slots:=[(3,.arr true 5 (.int .u8))],nb:=4 } [(.exit 0,{ tmps:=[(3,.one (.own 4))],slots:=[(4,.arr true 5 (.int .u8))],nb:=5 })] (fun j x=>Z6.l0 j x) k
def Z6.l0.ok (k:Nat):=(lA (Z6.cok k):Zj Yb _ (.loop (cO (cO (cL (cR (cR (cB Yf))))))) (Z6.l0.s k))
def Z6.l1.s (k:Nat):Summ:=lp 78 { tmps:=[(3,.one (.own 5)),(4,.one (.v (.int .u64))),(5,.one (.v (.int .i64)))],slots:=[(5,.arr true 5 (.int .u8))],nb:=6 } [(.exit 2,{ tmps:=[(3,.one (.own 6))],slots:=[(6,.arr true 5 (.int .u8))],nb:=7 })] (fun j x=>Z6.l1 j x.1 x.2.1 x.2.2) k
def Z6.l1.ok (k:Nat):=(lA (Z6.cok k):Zj Yb _ (.loop (cO (cO (cR (cL (cR (cR (cR (cR (cB Yf)))))))))) (Z6.l1.s k))
def Z6.l2.s (k:Nat):Summ:=lp 78 { tmps:=[(3,.one (.v (.sl (.int .u8)))),(6,.one (.own 8)),(7,.one (.v (.int .i64)))],slots:=[(8,.arr false 2 (.int .i64))],nb:=9 } [(.exit 4,{ tmps:=[(6,.one (.own 9))],slots:=[(9,.arr false 2 (.int .i64))],nb:=10 })] (fun j x=>Z6.l2 k j x.1 x.2.1 x.2.2) k
def Z6.l2.ok (k:Nat):=(lA (Z6.cok k):Zj Yb _ (.loop (cO (cO (cR (cL (cR (cR (cR (cR (cR (cR (cB Yf)))))))))))) (Z6.l2.s k))
def Z6.l3.s (k:Nat):Summ:=lp 78 { tmps:=[(6,.one (.own 11)),(8,.one (.own 12)),(9,.one (.v (.int .i64)))],slots:=[(11,.arr false 2 (.int .i64)),(12,.arr false 5 (.int .u8))],nb:=13 } [(.exit 6,{ tmps:=[(8,.one (.own 13))],slots:=[(13,.arr false 5 (.int .u8))],nb:=14 })] (fun j x=>Z6.l3 j x.1 x.2.1 x.2.2) k
def Z6.l3.ok (k:Nat):=(lA (Z6.cok k):Zj Yb _ (.loop (cO (cO (cR (cL (cR (cR (cR (cR (cR (cR (cR (cR (cB Yf)))))))))))))) (Z6.l3.s k))
theorem Z6.ok (k:Nat):Ze Yb 183 (Z6.con k):=fP (.two .auto (.two .auto (.two (.one (.sum (Z6.l0.s k))) (.two .auto (.two (.two .auto (.one (.sum (Z6.l1.s k)))) (.two .auto (.two (.two .auto (.one (.sum (Z6.l2.s k)))) (.two .auto (.two (.two .auto (.one (.sum (Z6.l3.s k)))) .auto))))))))) (Z6.cok k) Tryz.func183 (sC (Z6.l0.ok k) (sC (Z6.l1.ok k) (sC (Z6.l2.ok k) (sC (Z6.l3.ok k) sN))))
def Zpt (k:Nat) (a1:Str):Option (Str):=bif decide (8000<((a1.length):Int)) then some ([]) else Ya (Z6 k a1) fun v2=>some v2
def Zpt.con (k:Nat):Con:=Sig.con { ps:=[.val false .str (ros .str)],rs:=[.val false [.v .str]],ntmps:=8 } (fun x=>Zpt k x)
theorem Zpt.ok (k:Nat):Ze Yb 90 (Zpt.con k):=fA (cX (cC (Z6.ok k) cN)) Tryz.func90
def Z6e.l0:Nat→List Str→Str→Int→Option (Str)
 | 0,_,_,_=>none
 | j+1,a1,a2,a3=>bif decide (a3<((a1.length):Int)) then Ya (at? a1 a3) fun v4=>Ya (Zsc a2 v4) fun v5=>Z6e.l0 j a1 v5 (Yc .i64 (a3+1)) else some a2
def Z6e (k:Nat) (a1:List Str):Option (Str):=Ya (Z6e.l0 k a1 [] 0) fun y2=>some y2
def Z6e.con (k:Nat):Con:=Sig.con { ps:=[.val false (.sl .str) (ros (.sl .str))],rs:=[.val false [.v .str]],ntmps:=18 } (fun x=>Z6e k x)
def Z6e.cok (k:Nat):=cX cN
def Z6e.l0.s (k:Nat):Summ:=lp 18 { tmps:=[(0,.one (.bor .str)),(3,.one (.v .str)),(4,.one (.v (.int .i64)))],slots:=[],nb:=0 } [(.exit 0,{ tmps:=[(3,.one (.v .str))],slots:=[],nb:=0 })] (fun j x=>Z6e.l0 j x.1 x.2.1 x.2.2) k
def Z6e.l0.ok (k:Nat):=(lA (Z6e.cok k):Zj Yb _ (.loop (cO (cO (cR (cL (cR (cR (cB Tryz.f91)))))))) (Z6e.l0.s k))
theorem Z6e.ok (k:Nat):Ze Yb 91 (Z6e.con k):=fP (.two .auto (.two .auto (.two (.two .auto (.one (.sum (Z6e.l0.s k)))) .auto))) (Z6e.cok k) Tryz.func91 (sC (Z6e.l0.ok k) sN)
def Z3o (k:Nat) (a1:List Str):Option (Str):=Ya (Zuc k a1) fun v2=>bif !v2 then some ([]) else Ya (Z6e k a1) fun v3=>Ya (Zpt k v3) fun v4=>some v4
def Z3o.con (k:Nat):Con:=Sig.con { ps:=[.val false (.sl .str) (ros (.sl .str))],rs:=[.val false [.v .str]],ntmps:=9 } (fun x=>Z3o k x)
theorem Z3o.ok (k:Nat):Ze Yb 49 (Z3o.con k):=fA (cX (cC (Zuc.ok k) (cC (Zpt.ok k) (cC (Z6e.ok k) cN)))) Tryz.func49
def Z3j (a1:G46):Option (Int×Int×Int×Int×Int×Str×List Int×List Int):=Ya (Zt 8 [] a1.2.2.2.2.2.2.1) fun v2=>some (1,0,0,0,0,[],v2,[])
def Z3j.con (k:Nat):Con:=Sig.con { ps:=[.val true T46 (ros T46)],rs:=[.val true [.v (.int .i64),.v (.int .i64),.v (.int .i64),.v (.int .i64),.v (.int .i64),.v .str,.own 2 (.int .i64),.own 2 (.int .i64)]],ntmps:=8 } (fun x=>Z3j x)
theorem Z3j.ok (k:Nat):Ze Yb 233 (Z3j.con k):=fA (cXr true false cN) Tryz.func233
def Zwr (a1:Int):Option (List Str×Int):=some ([],a1)
def Zwr.con (k:Nat):Con:=Sig.con { ps:=[.val false (.int .i64) (ros (.int .i64))],rs:=[.val true [.own 9 .str,.v (.int .i64)]],ntmps:=5 } (fun x=>Zwr x)
theorem Zwr.ok (k:Nat):Ze Yb 315 (Zwr.con k):=fA (cX cN) Tryz.func315
def Zst:Option (Str):=Ya (Z3g 1 8 8 0) fun v1=>some (Zob v1)
def Zst.con (k:Nat):Con:=Sig.con { ps:=[],rs:=[.val false [.v .str]],ntmps:=3 } (fun x=>Zst )
theorem Zst.ok (k:Nat):Ze Yb 180 (Zst.con k):=fA (cX cN) Tryz.func180
def Z9f.l0:Nat→Str→Str→Int→List Int→Option ((List Int))
 | 0,_,_,_,_=>none
 | j+1,a1,a2,a3,a4=>bif decide (a3<8) then Ya (at? a1 a3) fun v5=>Ya (at? a2 a3) fun v6=>Ya (at? a4 a3) fun v7=>Ya (at? a4 a3) fun v8=>Z9f.l0 j a1 a2 (Yc .i64 (a3+1)) (Ye a4 (Yd a3) (intBits .xor .u8 (v5.toNat:Int) (v6.toNat:Int))) else some a4
def Z9f (k:Nat) (a1:Str) (a2:Str):Option (Str):=bif (((a1.length):Int) != 8)||(((a2.length):Int) != 8) then some ([]) else Ya (Z3g 1 8 8 0) fun v3=>Ya (Z9f.l0 k a1 a2 0 v3) fun y4=>some (Zob y4)
def Z9f.con (k:Nat):Con:=Sig.con { ps:=[.val false .str (ros .str),.val false .str (ros .str)],rs:=[.val false [.v .str]],ntmps:=32 } (fun x=>Z9f k x.1 x.2)
def Z9f.cok (k:Nat):=cX cN
def Z9f.l0.s (k:Nat):Summ:=lp 32 { tmps:=[(0,.one (.v .str)),(1,.one (.v .str)),(5,.one (.own 1)),(6,.one (.v (.int .i64)))],slots:=[(1,.arr false 5 (.int .u8))],nb:=2 } [(.exit 0,{ tmps:=[(5,.one (.own 2))],slots:=[(2,.arr false 5 (.int .u8))],nb:=3 })] (fun j x=>Z9f.l0 j x.1 x.2.1 x.2.2.1 x.2.2.2) k
def Z9f.l0.ok (k:Nat):=(lA (Z9f.cok k):Zj Yb _ (.loop (cO (cO (cR (cL (cR (cR (cR (cB Tryz.f182))))))))) (Z9f.l0.s k))
theorem Z9f.ok (k:Nat):Ze Yb 182 (Z9f.con k):=fP (.two .auto (.two .auto (.two .auto (.two (.two .auto (.one (.sum (Z9f.l0.s k)))) .auto)))) (Z9f.cok k) Tryz.func182 (sC (Z9f.l0.ok k) sN)
def Zvl (k:Nat) (a1:G52) (a2:Str):Option (Str):=bif a1.1==1 then Ya (Zst ) fun v3=>some v3 else bif a1.1==2 then some a1.2.2.2 else bif a1.1==3 then some a2 else Ya (Z9f k a2 a1.2.2.2) fun v4=>some v4
def Zvl.con (k:Nat):Con:=Sig.con { ps:=[.val true T52 (ros T52),.val false .str (ros .str)],rs:=[.val false [.v .str]],ntmps:=21 } (fun x=>Zvl k x.1 x.2)
theorem Zvl.ok (k:Nat):Ze Yb 305 (Zvl.con k):=fA (cX (cC (Zst.ok k) (cC (Z9f.ok k) cN))) Tryz.func305
def Zqf.l0 (k:Nat):Nat→List Str→List G52→Int→List Str→Option ((List Str))
 | 0,_,_,_,_=>none
 | j+1,a1,a2,a3,a4=>bif decide (a3<((a2.length):Int)) then Ya (at? a2 a3) fun v5=>let e6:=Yc .i64 (a3+1);bif v5.1 != 5 then Ya (at? a2 a3) fun v7=>Ya (at? a2 a3) fun v8=>Ya (at? a2 a3) fun v9=>Ya (at? a1 v9.2.2.1) fun v10=>Ya (Zvl k v8 v10) fun v11=>let e12:=at? a4 v7.2.1;Ya (e12) fun v13=>Ya (e12) fun v14=>Zqf.l0 k j a1 a2 e6 (Ye a4 (Yd v7.2.1) v11) else Zqf.l0 k j a1 a2 e6 a4 else some a4
def Zqf (k:Nat) (a1:List Str) (a2:List G52):Option (List Str):=Ya (Zt 16 [] a1) fun v3=>Ya (Zqf.l0 k k a1 a2 0 v3) fun y4=>some y4
def Zqf.con (k:Nat):Con:=Sig.con { ps:=[.val false (.sl .str) (ros (.sl .str)),.val false (.sl T52) (ros (.sl T52))],rs:=[.val false [.own 9 .str]],ntmps:=43 } (fun x=>Zqf k x.1 x.2)
def Zqf.cok (k:Nat):=cX (cC (Zvl.ok k) cN)
def Zqf.l0.s (k:Nat):Summ:=lp 43 { tmps:=[(0,.one (.bor .str)),(1,.one (.bor T52)),(5,.one (.own 2)),(6,.one (.v (.int .i64)))],slots:=[(2,.arr false 9 .str)],nb:=3 } [(.exit 0,{ tmps:=[(5,.one (.own 3))],slots:=[(3,.arr false 9 .str)],nb:=4 })] (fun j x=>Zqf.l0 k j x.1 x.2.1 x.2.2.1 x.2.2.2) k
def Zqf.l0.ok (k:Nat):=(lA (Zqf.cok k):Zj Yb _ (.loop (cO (cO (cR (cL (cR (cR (cB Tryz.f316)))))))) (Zqf.l0.s k))
theorem Zqf.ok (k:Nat):Ze Yb 316 (Zqf.con k):=fP (.two .auto (.two .auto (.two (.two .auto (.one (.sum (Zqf.l0.s k)))) .auto))) (Zqf.cok k) Tryz.func316 (sC (Zqf.l0.ok k) sN)
def Zqt (k:Nat) (a1:List Str) (a2:List G52):Option (List Str×Int):=bif (decide (400<((a1.length):Int)))||(decide (400<((a2.length):Int))) then Ya (Zwr 2) fun v3=>some (v3.1,v3.2) else Ya (Zuc k a1) fun v4=>bif !v4 then Ya (Zwr 1) fun v5=>some (v5.1,v5.2) else Ya (Zu k a2 ((a1.length):Int)) fun v6=>bif v6 != 0 then Ya (Zwr v6) fun v7=>some (v7.1,v7.2) else Ya (Zqf k a1 a2) fun v8=>some (v8,0)
def Zqt.con (k:Nat):Con:=Sig.con { ps:=[.val false (.sl .str) (ros (.sl .str)),.val false (.sl T52) (ros (.sl T52))],rs:=[.val true [.own 9 .str,.v (.int .i64)]],ntmps:=31 } (fun x=>Zqt k x.1 x.2)
theorem Zqt.ok (k:Nat):Ze Yb 302 (Zqt.con k):=fA (cX (cC (Zuc.ok k) (cC (Zu.ok k) (cC (Zwr.ok k) (cC (Zqf.ok k) cN))))) Tryz.func302
def Zvn (k:Nat) (a1:List Str) (a2:List G52):Option (List Str×Int):=Ya (Zqt k a1 a2) fun v3=>some (v3.1,v3.2)
def Zvn.con (k:Nat):Con:=Sig.con { ps:=[.val false (.sl .str) (ros (.sl .str)),.val false (.sl T52) (ros (.sl T52))],rs:=[.val true [.own 9 .str,.v (.int .i64)]],ntmps:=8 } (fun x=>Zvn k x.1 x.2)
theorem Zvn.ok (k:Nat):Ze Yb 277 (Zvn.con k):=fA (cX (cC (Zqt.ok k) cN)) Tryz.func277
def Zyr (k:Nat) (a1:G28) (a2:G46):Option (List Zmc×Str×List Int×Int):=bif a2.1 != 2 then Ya (Zug 10) fun v3=>some (v3.1,v3.2.1,v3.2.2.1,v3.2.2.2) else Ya (Zjc k a1 a2) fun v4=>Ya (Zde k a1) fun v5=>Ya (Zvn k v5 v4) fun v6=>Ya (Z3j a2) fun v7=>Ya (Z8e k a1 v7) fun v8=>bif ((v4.length):Int) != a2.2.2.1 then some (v8,[],[],4) else bif v6.2 != 0 then some (v8,[],[],5) else Ya (Z3o k v6.1) fun v9=>bif !(v9==a2.2.2.2.2.2.1) then some (v8,[],[],5) else Ya (Z1j k v4 a1.1) fun v10=>Ya (Zre k v10.1) fun v11=>bif decide (a2.2.2.2.1<v11) then some (v8,[],[],11) else Ya (Z2j a2) fun v12=>Ya (Z8e k a1 (3,v12.2)) fun v13=>Ya (Zt 32 ([(true,(0,[]))]) v13) fun v14=>some (v14,[],[],0)
def Zyr.con (k:Nat):Con:=Sig.con { ps:=[.val true T28 (ros T28),.val true T46 (ros T46)],rs:=[.val true [.own 151 Z6b,.v .str,.own 2 (.int .i64),.v (.int .i64)]],ntmps:=68 } (fun x=>Zyr k x.1 x.2)
theorem Zyr.ok (k:Nat):Ze Yb 231 (Zyr.con k):=fA (cXr true false (cC (Zre.ok k) (cC (Z1j.ok k) (cC (Z3o.ok k) (cC (Zug.ok k) (cC (Zde.ok k) (cC (Z2j.ok k) (cC (Z8e.ok k) (cC (Z3j.ok k) (cC (Zjc.ok k) (cC (Zvn.ok k) cN))))))))))) Tryz.func231
def Z4j (k:Nat) (a1:G28) (a2:G46):Option (List Zed):=Ya (Zjc k a1 a2) fun v3=>Ya (Z1j k v3 a1.1) fun v4=>some v4.1
def Z4j.con (k:Nat):Con:=Sig.con { ps:=[.val true T28 (ros T28),.val true T46 (ros T46)],rs:=[.val false [.own 139 Z5b]],ntmps:=12 } (fun x=>Z4j k x.1 x.2)
theorem Z4j.ok (k:Nat):Ze Yb 278 (Z4j.con k):=fA (cXr true false (cC (Z1j.ok k) (cC (Zjc.ok k) cN))) Tryz.func278
def Zrd.l0:Nat→List Zed→Int→Int→Int→Option (Unit ⊕ Int)
 | 0,_,_,_,_=>none
 | j+1,a1,a2,a3,a4=>bif decide (a4<a2) then Ya (at? a1 a4) fun v5=>let e6:=Yc .i64 (a4+1);bif v5.1==1 then Ya (at? a1 a4) fun v7=>bif v7.2.2.1==a3 then Ya (at? a1 a4) fun v8=>some (.inr (v8.2.2.2)) else Zrd.l0 j a1 a2 a3 e6 else Zrd.l0 j a1 a2 a3 e6 else some (.inl ())
def Zrd (k:Nat) (a1:List Zed) (a2:Int) (a3:Int):Option (Int):=Ya (Zrd.l0 k a1 a2 a3 0) fun
  | .inl y4=>some (-1)
  | .inr y5=>some y5
def Zrd.con (k:Nat):Con:=Sig.con { ps:=[.val false (.sl Z5b) (ros (.sl Z5b)),.val false (.int .i64) (ros (.int .i64)),.val false (.int .i64) (ros (.int .i64))],rs:=[.val false [.v (.int .i64)]],ntmps:=33 } (fun x=>Zrd k x.1 x.2.1 x.2.2)
def Zrd.cok (k:Nat):=cX cN
def Zrd.l0.s (k:Nat):Summ:=lp 33 { tmps:=[(0,.one (.bor Z5b)),(1,.one (.v (.int .i64))),(2,.one (.v (.int .i64))),(7,.one (.v (.int .i64)))],slots:=[],nb:=0 } [(.exit 0,{ tmps:=[],slots:=[],nb:=0 }),(.ret,{ tmps:=[(6,.one (.v (.int .i64)))],slots:=[],nb:=0 })] (fun j x=>Zrd.l0 j x.1 x.2.1 x.2.2.1 x.2.2.2) k
def Zrd.l0.ok (k:Nat):=(lA (Zrd.cok k):Zj Yb _ (.loop (cO (cO (cR (cL (cR (cB Tryz.f303))))))) (Zrd.l0.s k))
theorem Zrd.ok (k:Nat):Ze Yb 303 (Zrd.con k):=fP (.two .auto (.two (.two .auto (.one (.sum (Zrd.l0.s k)))) .auto)) (Zrd.cok k) Tryz.func303 (sC (Zrd.l0.ok k) sN)
def Zxr (k:Nat) (a1:G28) (a2:G46) (a3:Int):Option (Str):=Ya (at? a2.2.2.2.2.2.2.2 a3) fun v4=>Ya (Zfh a1 v4) fun v5=>Ya (Ztb k a1.2 v5) fun v6=>some v6
def Zxr.con (k:Nat):Con:=Sig.con { ps:=[.val true T28 (ros T28),.val true T46 (ros T46),.val false (.int .i64) (ros (.int .i64))],rs:=[.val false [.v .str]],ntmps:=17 } (fun x=>Zxr k x.1 x.2.1 x.2.2)
theorem Zxr.ok (k:Nat):Ze Yb 304 (Zxr.con k):=fA (cXr true false (cC (Ztb.ok k) (cC (Zfh.ok k) cN))) Tryz.func304
def Zyn (k:Nat) (a1:G28) (a2:G46) (a3:List Zed) (a4:G52):Option (Str):=bif (a4.1==3)||(a4.1==4) then Ya (Ztb k a1.2 (Yc .i64 (3+a4.2.2.1))) fun v5=>Ya (Zrd k a3 a2.2.2.2.2.1 a4.2.2.1) fun v6=>bif decide (0≤v6) then Ya (Zxr k a1 a2 v6) fun v7=>Ya (Zvl k a4 v7) fun v8=>some v8 else Ya (Zvl k a4 v5) fun v9=>some v9 else Ya (Zvl k a4 []) fun v10=>some v10
def Zyn.con (k:Nat):Con:=Sig.con { ps:=[.val true T28 (ros T28),.val true T46 (ros T46),.val false (.sl Z5b) (ros (.sl Z5b)),.val true T52 (ros T52)],rs:=[.val false [.v .str]],ntmps:=40 } (fun x=>Zyn k x.1 x.2.1 x.2.2.1 x.2.2.2)
theorem Zyn.ok (k:Nat):Ze Yb 279 (Zyn.con k):=fA (cXr true false (cC (Ztb.ok k) (cC (Zrd.ok k) (cC (Zxr.ok k) (cC (Zvl.ok k) cN))))) Tryz.func279
def Zlm (k:Nat) (a1:Int) (a2:Int) (a3:Str):Option (Str):=Ya (Z7 a1 0 1000000) fun v4=>bif !v4 then some ([]) else Ya (Z7 a2 0 39) fun v5=>bif (!v5)||(((a3.length):Int) != 8) then some ([]) else Ya (Z8b k a1) fun v6=>Ya (Z8b k a2) fun v7=>Ya (Zsc v6 v7) fun v8=>Ya (Zbj k a3) fun v9=>Ya (Zsc v8 v9) fun v10=>Ya (Zql k v10) fun v11=>some v11
def Zlm.con (k:Nat):Con:=Sig.con { ps:=[.val false (.int .i64) (ros (.int .i64)),.val false (.int .i64) (ros (.int .i64)),.val false .str (ros .str)],rs:=[.val false [.v .str]],ntmps:=29 } (fun x=>Zlm k x.1 x.2.1 x.2.2)
theorem Zlm.ok (k:Nat):Ze Yb 280 (Zlm.con k):=fA (cX (cC (Z7.ok k) (cC (Z8b.ok k) (cC (Zbj.ok k) (cC (Zql.ok k) cN))))) Tryz.func280
def Zng.j0 (k:Nat) (a1:Int) (a2:List Str) (a3:List Zq) (a4:Int) (a5:Int) (a6:Int) (a7:Int) (a8:Int) (a9:Str) (a10:List Int) (a11:List Int) (a12:Int) (a13:Str) (a14:Int) (a15:Int) (a16:Int) (a17:Int) (a18:List Zed):Option ((Int×Str×Int×Int×Int×Int)):=let e19:=(a1,(a2,a3));bif a14==1 then Ya (at? a11 a17) fun v20=>Ya (Zfh e19 v20) fun v21=>some (v21,a13,a14,a15,a16,a17) else let e22:=(a4,(a5,(a6,(a7,(a8,(a9,(a10,a11)))))));Ya (Zjc k e19 e22) fun v23=>Ya (Zbd k v23) fun v24=>Ya (at? v24 a15) fun v25=>Ya (at? v24 a15) fun v26=>Ya (Zyn k e19 e22 a18 v26) fun v27=>some (a12,v27,a14,a15,a16,a17)
def Zng (k:Nat) (a1:G28) (a2:G46):Option (List Zmc×Str×List Int×Int):=bif a2.1 != 5 then Ya (Zug 10) fun v3=>some (v3.1,v3.2.1,v3.2.2.1,v3.2.2.2) else Ya (Z4j k a1 a2) fun v4=>bif decide (((v4.length):Int)≤a2.2.2.2.2.1) then Ya (Z3j a2) fun v5=>Ya (Z8e k a1 v5) fun v6=>some (v6,[],[0],0) else let e7:=at? v4 a2.2.2.2.2.1;Ya (e7) fun v8=>Ya (e7) fun v9=>let e10:=Yc .i64 (3+v9.2.2.1);Ya (Ztb k a1.2 e10) fun v11=>Ya (Zng.j0 k a1.1 a1.2.1 a1.2.2 a2.1 a2.2.1 a2.2.2.1 a2.2.2.2.1 a2.2.2.2.2.1 a2.2.2.2.2.2.1 a2.2.2.2.2.2.2.1 a2.2.2.2.2.2.2.2 e10 v11 v9.1 v9.2.1 v9.2.2.1 v9.2.2.2 v4) fun y12=>Ya (Z2j a2) fun v13=>Ya (Zlm k a2.2.2.2.2.1 y12.1 y12.2.1) fun v14=>let e15:=Yc .i64 (a2.2.2.2.2.1+1);Ya (Z8e k a1 (v13.1,(v13.2.1,(v13.2.2.1,(v13.2.2.2.1,(e15,v13.2.2.2.2.2)))))) fun v16=>let e17:=(true,(0,[]));Ya (Zt 32 [(false,(2,v14)),e17,(false,(y12.1,y12.2.1)),e17] v16) fun v18=>some (v18,[],[(Yc .i64 (((v4.length):Int)-e15))],0)
def Zng.con (k:Nat):Con:=Sig.con { ps:=[.val true T28 (ros T28),.val true T46 (ros T46)],rs:=[.val true [.own 151 Z6b,.v .str,.own 2 (.int .i64),.v (.int .i64)]],ntmps:=99 } (fun x=>Zng k x.1 x.2)
def Zng.cok (k:Nat):=cXr true false (cC (Zug.ok k) (cC (Zbd.ok k) (cC (Ztb.ok k) (cC (Z2j.ok k) (cC (Z8e.ok k) (cC (Z3j.ok k) (cC (Zjc.ok k) (cC (Zfh.ok k) (cC (Z4j.ok k) (cC (Zyn.ok k) (cC (Zlm.ok k) cN)))))))))))
def Zng.j0.s (k:Nat):Summ:=lq 99 { tmps:=[(2,.eptr [.v (.int .i64),.bor .str,.bor Zo]),(3,.eptr [.v (.int .i64),.v (.int .i64),.v (.int .i64),.v (.int .i64),.v (.int .i64),.v .str,.bor (.int .i64),.bor (.int .i64)]),(5,.one (.own 3)),(7,.one (.ptr 2 0)),(8,.one (.v (.int .i64))),(9,.one (.v .str))],slots:=[(2,.box 139 [.v (.int .i64),.v (.int .i64),.v (.int .i64),.v (.int .i64)]),(3,.arr false 139 Z5b)],nb:=4 } [(.nrm,{ tmps:=[(8,.one (.v (.int .i64))),(9,.one (.v .str))],slots:=[(2,.box 139 [.v (.int .i64),.v (.int .i64),.v (.int .i64),.v (.int .i64)])],nb:=4 })] (fun x=>Zng.j0 k x.1 x.2.1 x.2.2.1 x.2.2.2.1 x.2.2.2.2.1 x.2.2.2.2.2.1 x.2.2.2.2.2.2.1 x.2.2.2.2.2.2.2.1 x.2.2.2.2.2.2.2.2.1 x.2.2.2.2.2.2.2.2.2.1 x.2.2.2.2.2.2.2.2.2.2.1 x.2.2.2.2.2.2.2.2.2.2.2.1 x.2.2.2.2.2.2.2.2.2.2.2.2.1 x.2.2.2.2.2.2.2.2.2.2.2.2.2.1 x.2.2.2.2.2.2.2.2.2.2.2.2.2.2.1 x.2.2.2.2.2.2.2.2.2.2.2.2.2.2.2.1 x.2.2.2.2.2.2.2.2.2.2.2.2.2.2.2.2.1 x.2.2.2.2.2.2.2.2.2.2.2.2.2.2.2.2.2)
def Zng.j0.ok (k:Nat):=(jA (Zng.cok k):Zj Yb _ (cL (cR (cR (cR (cR (cR (cR (cR (cR (cB Tryz.f234)))))))))) (Zng.j0.s k))
theorem Zng.ok (k:Nat):Ze Yb 234 (Zng.con k):=fP (.two .auto (.two .auto (.two .auto (.two .auto (.two .auto (.two .auto (.two .auto (.two .auto (.two (.sum (Zng.j0.s k)) .auto))))))))) (Zng.cok k) Tryz.func234 (sC (Zng.j0.ok k) sN)
def Z9e.l0 (k:Nat):Nat→Int→List Str→List Zq→Int→Int→Int→Int→Int→Str→List Int→List Int→Int→List Zed→List G52→List Str→Option ((List Str))
 | 0,_,_,_,_,_,_,_,_,_,_,_,_,_,_,_=>none
 | j+1,a1,a2,a3,a4,a5,a6,a7,a8,a9,a10,a11,a12,a13,a14,a15=>bif decide (a12<((a13.length):Int)) then Ya (at? a13 a12) fun v16=>Ya (at? a13 a12) fun v17=>let e18:=Yc .i64 (a12+1);bif (v17.1==2)&&(decide (a8≤a12)) then Ya (at? a13 a12) fun v19=>Ya (at? a13 a12) fun v20=>Ya (at? a13 a12) fun v21=>Ya (at? a13 a12) fun v22=>let e23:=at? a14 v22.2.1;Ya (e23) fun v24=>Ya (e23) fun v25=>Ya (Zyn k (a1,(a2,a3)) (a4,(a5,(a6,(a7,(a8,(a9,(a10,a11))))))) a13 v25) fun v26=>let e27:=at? a15 v20.2.2.1;Ya (e27) fun v28=>Ya (e27) fun v29=>Z9e.l0 k j a1 a2 a3 a4 a5 a6 a7 a8 a9 a10 a11 e18 a13 a14 (Ye a15 (Yd v20.2.2.1) v26) else Z9e.l0 k j a1 a2 a3 a4 a5 a6 a7 a8 a9 a10 a11 e18 a13 a14 a15 else some a15
def Z9e (k:Nat) (a1:G28) (a2:G46):Option (List Str):=Ya (Zde k a1) fun v3=>Ya (Zjc k a1 a2) fun v4=>bif a2.1==4 then Ya (Zvn k v3 v4) fun v5=>some v5.1 else bif a2.1 != 5 then some v3 else Ya (Z4j k a1 a2) fun v6=>Ya (Zbd k v4) fun v7=>Ya (Zt 16 [] v3) fun v8=>Ya (Z9e.l0 k k a1.1 a1.2.1 a1.2.2 a2.1 a2.2.1 a2.2.2.1 a2.2.2.2.1 a2.2.2.2.2.1 a2.2.2.2.2.2.1 a2.2.2.2.2.2.2.1 a2.2.2.2.2.2.2.2 0 v6 v7 v8) fun y9=>some y9
def Z9e.con (k:Nat):Con:=Sig.con { ps:=[.val true T28 (ros T28),.val true T46 (ros T46)],rs:=[.val false [.own 9 .str]],ntmps:=73 } (fun x=>Z9e k x.1 x.2)
def Z9e.cok (k:Nat):=cXr true false (cC (Zde.ok k) (cC (Zbd.ok k) (cC (Zjc.ok k) (cC (Zvn.ok k) (cC (Z4j.ok k) (cC (Zyn.ok k) cN))))))
def Z9e.l0.s (k:Nat):Summ:=lp 73 { tmps:=[(2,.eptr [.v (.int .i64),.bor .str,.bor Zo]),(3,.eptr [.v (.int .i64),.v (.int .i64),.v (.int .i64),.v (.int .i64),.v (.int .i64),.v .str,.bor (.int .i64),.bor (.int .i64)]),(7,.one (.own 6)),(8,.one (.own 7)),(9,.one (.own 8)),(10,.one (.v (.int .i64)))],slots:=[(6,.arr false 139 Z5b),(7,.arr false 52 T52),(8,.arr false 9 .str)],nb:=9 } [(.exit 0,{ tmps:=[(9,.one (.own 9))],slots:=[(9,.arr false 9 .str)],nb:=10 })] (fun j x=>Z9e.l0 k j x.1 x.2.1 x.2.2.1 x.2.2.2.1 x.2.2.2.2.1 x.2.2.2.2.2.1 x.2.2.2.2.2.2.1 x.2.2.2.2.2.2.2.1 x.2.2.2.2.2.2.2.2.1 x.2.2.2.2.2.2.2.2.2.1 x.2.2.2.2.2.2.2.2.2.2.1 x.2.2.2.2.2.2.2.2.2.2.2.1 x.2.2.2.2.2.2.2.2.2.2.2.2.1 x.2.2.2.2.2.2.2.2.2.2.2.2.2.1 x.2.2.2.2.2.2.2.2.2.2.2.2.2.2) k
def Z9e.l0.ok (k:Nat):=(lA (Z9e.cok k):Zj Yb _ (.loop (cO (cO (cR (cL (cR (cR (cR (cR (cR (cR (cR (cR (cB Tryz.f235)))))))))))))) (Z9e.l0.s k))
theorem Z9e.ok (k:Nat):Ze Yb 235 (Z9e.con k):=fP (.two .auto (.two .auto (.two .auto (.two .auto (.two .auto (.two .auto (.two .auto (.two .auto (.two (.two .auto (.one (.sum (Z9e.l0.s k)))) .auto))))))))) (Z9e.cok k) Tryz.func235 (sC (Z9e.l0.ok k) sN)
def Zqe.l0:Nat→List G52→Int→Int→Option (Int)
 | 0,_,_,_=>none
 | j+1,a1,a2,a3=>bif (decide (a3<((a1.length):Int)))&&(decide (((a1.length):Int)≤20)) then Ya (at? a1 a3) fun v4=>let e5:=Yc .i64 (a3+1);bif v4.1==5 then Zqe.l0 j a1 e5 e5 else Zqe.l0 j a1 a2 e5 else some a2
def Zqe (k:Nat) (a1:List G52):Option (Int):=Ya (Zqe.l0 k a1 0 0) fun y2=>some y2
def Zqe.con (k:Nat):Con:=Sig.con { ps:=[.val false (.sl T52) (ros (.sl T52))],rs:=[.val false [.v (.int .i64)]],ntmps:=25 } (fun x=>Zqe k x)
def Zqe.cok (k:Nat):=cX cN
def Zqe.l0.s (k:Nat):Summ:=lp 25 { tmps:=[(0,.one (.bor T52)),(3,.one (.v (.int .i64))),(4,.one (.v (.int .i64)))],slots:=[],nb:=0 } [(.exit 0,{ tmps:=[(3,.one (.v (.int .i64)))],slots:=[],nb:=0 })] (fun j x=>Zqe.l0 j x.1 x.2.1 x.2.2) k
def Zqe.l0.ok (k:Nat):=(lA (Zqe.cok k):Zj Yb _ (.loop (cO (cO (cR (cL (cR (cR (cB Tryz.f281)))))))) (Zqe.l0.s k))
theorem Zqe.ok (k:Nat):Ze Yb 281 (Zqe.con k):=fP (.two .auto (.two .auto (.two (.two .auto (.one (.sum (Zqe.l0.s k)))) .auto))) (Zqe.cok k) Tryz.func281 (sC (Zqe.l0.ok k) sN)
def Zgh.j0 (k:Nat) (a1:Int) (a2:List Str) (a3:List Zq) (a4:Int) (a5:Int) (a6:Int) (a7:Int) (a8:Int) (a9:Str) (a10:List Int) (a11:List Int) (a12:Int):Option (Int):=bif a4==5 then Ya (Z4j k (a1,(a2,a3)) (a4,(a5,(a6,(a7,(a8,(a9,(a10,a11)))))))) fun v13=>some (Yc .i64 (((v13.length):Int)-a8)) else some a12
def Zgh (k:Nat) (a1:G28) (a2:G46):Option (List Zmc×Str×List Int×Int):=Ya (Zjc k a1 a2) fun v3=>Ya (Zgh.j0 k a1.1 a1.2.1 a1.2.2 a2.1 a2.2.1 a2.2.2.1 a2.2.2.2.1 a2.2.2.2.2.1 a2.2.2.2.2.2.1 a2.2.2.2.2.2.2.1 a2.2.2.2.2.2.2.2 0) fun y4=>Ya (Zqe k v3) fun v5=>Ya (Zce k a2.2.2.2.2.2.2.1 a2.2.2.2.2.2.2.2) fun v6=>some ([],[],[a2.1,a2.2.1,((v3.length):Int),v5,y4,((v6.length):Int)],0)
def Zgh.con (k:Nat):Con:=Sig.con { ps:=[.val true T28 (ros T28),.val true T46 (ros T46)],rs:=[.val true [.own 151 Z6b,.v .str,.own 2 (.int .i64),.v (.int .i64)]],ntmps:=37 } (fun x=>Zgh k x.1 x.2)
def Zgh.cok (k:Nat):=cXr true false (cC (Zjc.ok k) (cC (Z4j.ok k) (cC (Zqe.ok k) (cC (Zce.ok k) cN))))
def Zgh.j0.s (k:Nat):Summ:=lq 37 { tmps:=[(2,.eptr [.v (.int .i64),.bor .str,.bor Zo]),(3,.eptr [.v (.int .i64),.v (.int .i64),.v (.int .i64),.v (.int .i64),.v (.int .i64),.v .str,.bor (.int .i64),.bor (.int .i64)]),(6,.one (.v (.int .i64)))],slots:=[],nb:=2 } [(.nrm,{ tmps:=[(6,.one (.v (.int .i64)))],slots:=[],nb:=2 })] (fun x=>Zgh.j0 k x.1 x.2.1 x.2.2.1 x.2.2.2.1 x.2.2.2.2.1 x.2.2.2.2.2.1 x.2.2.2.2.2.2.1 x.2.2.2.2.2.2.2.1 x.2.2.2.2.2.2.2.2.1 x.2.2.2.2.2.2.2.2.2.1 x.2.2.2.2.2.2.2.2.2.2.1 x.2.2.2.2.2.2.2.2.2.2.2)
def Zgh.j0.ok (k:Nat):=(jA (Zgh.cok k):Zj Yb _ (cL (cR (cR (cR (cB Tryz.f236))))) (Zgh.j0.s k))
theorem Zgh.ok (k:Nat):Ze Yb 236 (Zgh.con k):=fP (.two .auto (.two .auto (.two .auto (.two (.sum (Zgh.j0.s k)) .auto)))) (Zgh.cok k) Tryz.func236 (sC (Zgh.j0.ok k) sN)
def Zrf.l0 (k:Nat):Nat→Int→List Str→List Zq→Int→Int→Int→Int→Int→Str→List Int→List Int→Int→List Zmc→Option ((List Zmc))
 | 0,_,_,_,_,_,_,_,_,_,_,_,_,_=>none
 | j+1,a1,a2,a3,a4,a5,a6,a7,a8,a9,a10,a11,a12,a13=>bif decide (a12<((a11.length):Int)) then Ya (at? a11 a12) fun v14=>Ya (Zfh (a1,(a2,a3)) v14) fun v15=>Ya (Ztb k (a2,a3) v15) fun v16=>let e17:=Yc .i64 (a12+1);bif !(v16==[]) then Ya (Zt 32 a13 ([(false,(v15,[]))])) fun v18=>Zrf.l0 k j a1 a2 a3 a4 a5 a6 a7 a8 a9 a10 a11 e17 v18 else Zrf.l0 k j a1 a2 a3 a4 a5 a6 a7 a8 a9 a10 a11 e17 a13 else some a13
def Zrf (k:Nat) (a1:G28) (a2:G46):Option (List Zmc):=Ya (Zjc k a1 a2) fun v3=>Ya (Zqe k v3) fun v4=>Ya (Zrf.l0 k k a1.1 a1.2.1 a1.2.2 a2.1 a2.2.1 a2.2.2.1 a2.2.2.2.1 a2.2.2.2.2.1 a2.2.2.2.2.2.1 a2.2.2.2.2.2.2.1 a2.2.2.2.2.2.2.2 (Yc .i64 (a2.2.2.2.1+v4)) []) fun y5=>bif decide (0<((y5.length):Int)) then Ya (Zt 32 y5 ([(true,(0,[]))])) fun v6=>some v6 else some y5
def Zrf.con (k:Nat):Con:=Sig.con { ps:=[.val true T28 (ros T28),.val true T46 (ros T46)],rs:=[.val false [.own 151 Z6b]],ntmps:=50 } (fun x=>Zrf k x.1 x.2)
def Zrf.cok (k:Nat):=cXr true false (cC (Ztb.ok k) (cC (Zjc.ok k) (cC (Zfh.ok k) (cC (Zqe.ok k) cN))))
def Zrf.l0.s (k:Nat):Summ:=lp 50 { tmps:=[(2,.eptr [.v (.int .i64),.bor .str,.bor Zo]),(3,.eptr [.v (.int .i64),.v (.int .i64),.v (.int .i64),.v (.int .i64),.v (.int .i64),.v .str,.bor (.int .i64),.bor (.int .i64)]),(5,.one (.own 2)),(7,.one (.v (.int .i64)))],slots:=[(2,.arr false 151 Z6b)],nb:=3 } [(.exit 0,{ tmps:=[(5,.one (.own 3))],slots:=[(3,.arr false 151 Z6b)],nb:=4 })] (fun j x=>Zrf.l0 k j x.1 x.2.1 x.2.2.1 x.2.2.2.1 x.2.2.2.2.1 x.2.2.2.2.2.1 x.2.2.2.2.2.2.1 x.2.2.2.2.2.2.2.1 x.2.2.2.2.2.2.2.2.1 x.2.2.2.2.2.2.2.2.2.1 x.2.2.2.2.2.2.2.2.2.2.1 x.2.2.2.2.2.2.2.2.2.2.2.1 x.2.2.2.2.2.2.2.2.2.2.2.2) k
def Zrf.l0.ok (k:Nat):=(lA (Zrf.cok k):Zj Yb _ (.loop (cO (cO (cR (cL (cR (cR (cR (cB Tryz.f286))))))))) (Zrf.l0.s k))
theorem Zrf.ok (k:Nat):Ze Yb 286 (Zrf.con k):=fP (.two .auto (.two .auto (.two .auto (.two (.two .auto (.one (.sum (Zrf.l0.s k)))) .auto)))) (Zrf.cok k) Tryz.func286 (sC (Zrf.l0.ok k) sN)
end Go.Proofs.Qz
