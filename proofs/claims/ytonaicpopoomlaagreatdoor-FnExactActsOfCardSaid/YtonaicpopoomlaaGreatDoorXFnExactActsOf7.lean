/- What the law FnExactActsOf needs, part 8 of 14: the Lean functions of the Go functions that it reaches, with the proofs that the calls come to what they say, and plain facts about them. Conditions: those that each theorem states. Written by a session and by its programs (after the kit's printer). -/
import Derived.Test.YtonaicpopoomlaaGreatDoorXFnExactActsOf6
open Option renaming bind → Ya
open Go.IntKind renaming wrap → Yb, max → Ye
open Int renaming toNat → Yc
open List renaming set → Yd
namespace Go.Proofs.Qz
open Go Go.RowKit
set_option linter.unusedVariables false
set_option linter.defProp false
def Z5c.l0:Nat→List G29→Int→List G29→Option ((List G29))
 | 0,_,_,_=>none
 | j+1,a1,a2,a3=>
  bif (decide (a2<((a1.length):Int)))&&(decide (((a1.length):Int)≤20)) then
   Ya (at? a1 a2) fun v4=>
   let e5:=Yb .i64 (a2+1)
   bif v4.1 != 5 then
    Ya (at? a1 a2) fun v6=>
    Ya (Zu 40 a3 [v6]) fun v7=>
    Z5c.l0 j a1 e5 v7
   else
   Z5c.l0 j a1 e5 a3
  else
  some a3
def Z5c (k:Nat) (a1:List G29):Option (List G29):=
 Ya (Z5c.l0 k a1 0 []) fun y2=>
 some y2
def Z5c.con (k:Nat):Con:=Sig.con { ps:=[.val false (.sl T29) (ros (.sl T29))],rs:=[.val false [.own 45 T29]],ntmps:=31 } (fun x=>Z5c k x)
def Z5c.cok (k:Nat):=cX cN
def Z5c.l0.s (k:Nat):Summ:=lp 31 { tmps:=[(0,.one (.bor T29)),(3,.one (.own 1)),(4,.one (.v (.int .i64)))],slots:=[(1,.arr false 45 T29)],nb:=2 } [(.exit 0,{ tmps:=[(3,.one (.own 2))],slots:=[(2,.arr false 45 T29)],nb:=3 })] (fun j x=>Z5c.l0 j x.1 x.2.1 x.2.2) k
def Z5c.l0.ok (k:Nat):=(lA (Z5c.cok k):Zj Tryz.prog _ (.loop (cO (cO (cR (cL (cR (cR (cB Tryz.f112)))))))) (Z5c.l0.s k))
theorem Z5c.ok (k:Nat):Zf Tryz.prog 112 (Z5c.con k):=fP (.two .auto (.two .auto (.two (.two .auto (.one (.sum (Z5c.l0.s k)))) .auto))) (Z5c.cok k) Tryz.func112 (sC (Z5c.l0.ok k) sN)
def Zfr (a1:G29) (a2:Int):Option (Bool):=
 some (((a1.1==3)||(a1.1==4))&&(a1.2.2.1==a2))
def Zfr.con (k:Nat):Con:=Sig.con { ps:=[.val true T29 (ros T29),.val false (.int .i64) (ros (.int .i64))],rs:=[.val false [.v .bool]],ntmps:=19 } (fun x=>Zfr x.1 x.2)
theorem Zfr.ok (k:Nat):Zf Tryz.prog 241 (Zfr.con k):=fA (cX cN) Tryz.func241
def Z1c.l0:Nat→List G29→List Bool→Int→Int→Option (Unit ⊕ Bool)
 | 0,_,_,_,_=>none
 | j+1,a1,a2,a3,a4=>
  bif decide (a4<((a1.length):Int)) then
   let e5:=Yb .i64 (a4+1)
   bif a4 != a3 then
    Ya (at? a2 a4) fun v6=>
    bif v6 then
     Ya (at? a1 a4) fun v7=>
     Ya (at? a1 a3) fun v8=>
     Ya (Zfr v7 v8.2.1) fun v9=>
     bif v9 then
      some (.inr true)
     else
     Z1c.l0 j a1 a2 a3 e5
    else
    Z1c.l0 j a1 a2 a3 e5
   else
   Z1c.l0 j a1 a2 a3 e5
  else
  some (.inl ())
def Z1c (k:Nat) (a1:List G29) (a2:List Bool) (a3:List Bool) (a4:Int):Option (Bool):=
 Ya (at? a1 a4) fun v5=>
 Ya (at? a3 v5.2.1) fun v6=>
 bif v6 then
  some false
 else
 Ya (Z1c.l0 k a1 a2 a4 0) fun
  | .inl y7=>
   some false
  | .inr y8=>
   some y8
def Z1c.con (k:Nat):Con:=Sig.con { ps:=[.val false (.sl T29) (ros (.sl T29)),.val false (.sl .bool) (ros (.sl .bool)),.val false (.sl .bool) (ros (.sl .bool)),.val false (.int .i64) (ros (.int .i64))],rs:=[.val false [.v .bool]],ntmps:=45 } (fun x=>Z1c k x.1 x.2.1 x.2.2.1 x.2.2.2)
def Z1c.cok (k:Nat):=cX (cC (Zfr.ok k) cN)
def Z1c.l0.s (k:Nat):Summ:=lp 45 { tmps:=[(0,.one (.bor T29)),(1,.one (.bor .bool)),(3,.one (.v (.int .i64))),(9,.one (.v (.int .i64)))],slots:=[],nb:=0 } [(.exit 0,{ tmps:=[],slots:=[],nb:=0 }),(.ret,{ tmps:=[(8,.one (.v .bool))],slots:=[],nb:=0 })] (fun j x=>Z1c.l0 j x.1 x.2.1 x.2.2.1 x.2.2.2) k
def Z1c.l0.ok (k:Nat):=(lA (Z1c.cok k):Zj Tryz.prog _ (.loop (cO (cO (cR (cL (cR (cR (cB Tryz.f230)))))))) (Z1c.l0.s k))
theorem Z1c.ok (k:Nat):Zf Tryz.prog 230 (Z1c.con k):=fP (.two .auto (.two .auto (.two (.two .auto (.one (.sum (Z1c.l0.s k)))) .auto))) (Z1c.cok k) Tryz.func230 (sC (Z1c.l0.ok k) sN)
def Zgd.l0 (k:Nat):Nat→List G29→List Bool→List Bool→Int→Int→Int→Option ((Int×Int))
 | 0,_,_,_,_,_,_=>none
 | j+1,a1,a2,a3,a4,a5,a6=>
  bif decide (a6<((a1.length):Int)) then
   Ya (at? a2 a6) fun v7=>
   let e8:=Yb .i64 (a6+1)
   bif !v7 then
    Zgd.l0 k j a1 a2 a3 a4 a5 e8
   else
   bif decide (a5<0) then
    bif decide (a4<0) then
     Ya (Z1c k a1 a2 a3 a6) fun v9=>
     bif !v9 then
      Zgd.l0 k j a1 a2 a3 a6 a6 e8
     else
     Zgd.l0 k j a1 a2 a3 a4 a6 e8
    else
    Zgd.l0 k j a1 a2 a3 a4 a6 e8
   else
   bif decide (a4<0) then
    Ya (Z1c k a1 a2 a3 a6) fun v10=>
    bif !v10 then
     Zgd.l0 k j a1 a2 a3 a6 a5 e8
    else
    Zgd.l0 k j a1 a2 a3 a4 a5 e8
   else
   Zgd.l0 k j a1 a2 a3 a4 a5 e8
  else
  some (a4,a5)
def Zgd (k:Nat) (a1:List G29) (a2:List Bool) (a3:List Bool):Option (Int×Int):=
 Ya (Zgd.l0 k k a1 a2 a3 (-1) (-1) 0) fun y4=>
 some (y4.1,y4.2)
def Zgd.con (k:Nat):Con:=Sig.con { ps:=[.val false (.sl T29) (ros (.sl T29)),.val false (.sl .bool) (ros (.sl .bool)),.val false (.sl .bool) (ros (.sl .bool))],rs:=[.val false [.v (.int .i64)],.val false [.v (.int .i64)]],ntmps:=38 } (fun x=>Zgd k x.1 x.2.1 x.2.2)
def Zgd.cok (k:Nat):=cX (cC (Z1c.ok k) cN)
def Zgd.l0.s (k:Nat):Summ:=lp 38 { tmps:=[(0,.one (.bor T29)),(1,.one (.bor .bool)),(2,.one (.bor .bool)),(8,.one (.v (.int .i64))),(9,.one (.v (.int .i64))),(10,.one (.v (.int .i64)))],slots:=[],nb:=0 } [(.exit 0,{ tmps:=[(8,.one (.v (.int .i64))),(9,.one (.v (.int .i64)))],slots:=[],nb:=0 })] (fun j x=>Zgd.l0 k j x.1 x.2.1 x.2.2.1 x.2.2.2.1 x.2.2.2.2.1 x.2.2.2.2.2) k
def Zgd.l0.ok (k:Nat):=(lA (Zgd.cok k):Zj Tryz.prog _ (.loop (cO (cO (cR (cL (cR (cR (cB Tryz.f210)))))))) (Zgd.l0.s k))
theorem Zgd.ok (k:Nat):Zf Tryz.prog 210 (Zgd.con k):=fP (.two .auto (.two .auto (.two (.two .auto (.one (.sum (Zgd.l0.s k)))) .auto))) (Zgd.cok k) Tryz.func210 (sC (Zgd.l0.ok k) sN)
def Zxb.l0:Nat→Int→List G29→List Bool→Option ((List G29×List Bool))
 | 0,_,_,_=>none
 | j+1,a1,a2,a3=>
  bif decide (a1<((a2.length):Int)) then
   Ya (at? a3 a1) fun v4=>
   Ya (at? a3 a1) fun v5=>
   Zxb.l0 j (Yb .i64 (a1+1)) a2 (Yd a3 (Yc a1) true)
  else
  some (a2,a3)
def Zxb.l1 (k:Nat):Nat→Int→List G29→List Bool→List Bool→List Z7c→Option ((List Z7c))
 | 0,_,_,_,_,_=>none
 | j+1,a1,a2,a3,a4,a5=>
  Ya (Zgd k a2 a3 a4) fun v6=>
  bif decide (v6.2<0) then
   some a5
  else
  bif decide (0≤v6.1) then
   let e7:=at? a2 v6.1
   Ya (e7) fun v8=>
   Ya (e7) fun v9=>
   Ya (Zu 32 a5 [(2,(v6.1,(v9.2.1,0)))]) fun v10=>
   let e11:=at? a3 v6.1
   Ya (e11) fun v12=>
   Ya (e11) fun v13=>
   Zxb.l1 k j a1 a2 (Yd a3 (Yc v6.1) false) a4 v10
  else
  let e14:=at? a2 v6.2
  Ya (e14) fun v15=>
  Ya (e14) fun v16=>
  Ya (Zu 32 a5 [(1,(v6.2,(v16.2.1,a1)))]) fun v17=>
  Ya (e14) fun v18=>
  Ya (e14) fun v19=>
  let e20:=at? a4 v19.2.1
  Ya (e20) fun v21=>
  Ya (e20) fun v22=>
  Zxb.l1 k j (Yb .i64 (a1+1)) a2 a3 (Yd a4 (Yc v19.2.1) true) v17
def Zxb (k:Nat) (a1:List G29):Option (List Z7c):=
 Ya (Z5c k a1) fun v2=>
 Ya (Zlg 1 ((v2.length):Int) ((v2.length):Int) false) fun v3=>
 Ya (Zxb.l0 k 0 v2 v3) fun y4=>
 Ya (Zlg 1 8 8 false) fun v5=>
 Ya (Zxb.l1 k k 0 y4.1 y4.2 v5 []) fun y6=>
 some y6
def Zxb.con (k:Nat):Con:=Sig.con { ps:=[.val false (.sl T29) (ros (.sl T29))],rs:=[.val false [.own 107 Z2b]],ntmps:=74 } (fun x=>Zxb k x)
def Zxb.cok (k:Nat):=cX (cC (Z5c.ok k) (cC (Zgd.ok k) cN))
def Zxb.l0.s (k:Nat):Summ:=lp 74 { tmps:=[(3,.one (.own 2)),(4,.one (.own 3)),(5,.one (.v (.int .i64)))],slots:=[(2,.arr false 45 T29),(3,.arr false 4 .bool)],nb:=4 } [(.exit 0,{ tmps:=[(3,.one (.own 4)),(4,.one (.own 5))],slots:=[(4,.arr false 45 T29),(5,.arr false 4 .bool)],nb:=6 })] (fun j x=>Zxb.l0 j x.1 x.2.1 x.2.2) k
def Zxb.l0.ok (k:Nat):=(lA (Zxb.cok k):Zj Tryz.prog _ (.loop (cO (cO (cR (cL (cR (cR (cR (cB Tryz.f172))))))))) (Zxb.l0.s k))
def Zxb.l1.s (k:Nat):Summ:=lp 74 { tmps:=[(3,.one (.own 8)),(4,.one (.own 9)),(6,.one (.own 10)),(7,.one (.own 11)),(8,.one (.v (.int .i64)))],slots:=[(8,.arr false 45 T29),(9,.arr false 4 .bool),(10,.arr false 4 .bool),(11,.arr false 107 Z2b)],nb:=12 } [(.ret,{ tmps:=[(2,.one (.own 12))],slots:=[(12,.arr false 107 Z2b)],nb:=13 })] (fun j x=>Zxb.l1 k j x.1 x.2.1 x.2.2.1 x.2.2.2.1 x.2.2.2.2) k
def Zxb.l1.ok (k:Nat):=(lA (Zxb.cok k):Zj Tryz.prog _ (.loop (cO (cO (cR (cR (cR (cR (cR (cR (cR (cB Tryz.f172))))))))))) (Zxb.l1.s k))
theorem Zxb.ok (k:Nat):Zf Tryz.prog 172 (Zxb.con k):=fP (.two .auto (.two .auto (.two .auto (.two (.two .auto (.one (.sum (Zxb.l0.s k)))) (.two .auto (.two .auto (.two .auto (.one (.sum (Zxb.l1.s k)))))))))) (Zxb.cok k) Tryz.func172 (sC (Zxb.l0.ok k) (sC (Zxb.l1.ok k) sN))
def Z8i (k:Nat) (a1:List G29) (a2:Int):Option (List Z7c×Int):=
 bif decide (400<((a1.length):Int)) then
  some ([],2)
 else
 Ya (Zp k a1 a2) fun v3=>
 bif v3 != 0 then
  some ([],v3)
 else
 Ya (Zxb k a1) fun v4=>
 some (v4,0)
def Z8i.con (k:Nat):Con:=Sig.con { ps:=[.val false (.sl T29) (ros (.sl T29)),.val false (.int .i64) (ros (.int .i64))],rs:=[.val true [.own 107 Z2b,.v (.int .i64)]],ntmps:=20 } (fun x=>Z8i k x.1 x.2)
theorem Z8i.ok (k:Nat):Zf Tryz.prog 107 (Z8i.con k):=fA (cX (cC (Zp.ok k) (cC (Zxb.ok k) cN))) Tryz.func107
def Zgr (k:Nat) (a1:G27) (a2:G59):Option (Bool):=
 bif decide (a2.1≤2) then
  some true
 else
 Ya (Zgc k a1 a2) fun v3=>
 Ya (Z8i k v3 a1.1) fun v4=>
 bif v4.2==0 then
  Ya (Zfe k v4.1) fun v5=>
  bif decide (v5≤a2.2.2.2.1) then
   some (decide (a2.2.2.2.2.1≤((v4.1.length):Int)))
  else
  some false
 else
 some false
def Zgr.con (k:Nat):Con:=Sig.con { ps:=[.val true T27 (ros T27),.val true T59 (ros T59)],rs:=[.val false [.v .bool]],ntmps:=34 } (fun x=>Zgr k x.1 x.2)
theorem Zgr.ok (k:Nat):Zf Tryz.prog 93 (Zgr.con k):=fA (cXr true false (cC (Zgc.ok k) (cC (Zfe.ok k) (cC (Z8i.ok k) cN)))) Tryz.func93
def Zjn (k:Nat) (a1:G27):Option (Bool):=
 Ya (Zki k a1) fun v2=>
 bif v2.2.2.2.2.2.2.2.2 then
  Ya (Z2d k a1) fun v3=>
  Ya (Zpc k v3) fun v4=>
  bif v4 then
   Ya (Zgr k a1 (v2.1,(v2.2.1,(v2.2.2.1,(v2.2.2.2.1,(v2.2.2.2.2.1,(v2.2.2.2.2.2.1,(v2.2.2.2.2.2.2.1,v2.2.2.2.2.2.2.2.1)))))))) fun v5=>
   some v5
  else
  some false
 else
 some false
def Zjn.con (k:Nat):Con:=Sig.con { ps:=[.val true T27 (ros T27)],rs:=[.val false [.v .bool]],ntmps:=21 } (fun x=>Zjn k x)
theorem Zjn.ok (k:Nat):Zf Tryz.prog 36 (Zjn.con k):=fA (cXr true false (cC (Zki.ok k) (cC (Zpc.ok k) (cC (Z2d.ok k) (cC (Zgr.ok k) cN))))) Tryz.func36
def Zop (a1:G31):Option (Bool):=
 Ya (Zib a1.1 1 11) fun v2=>
 bif !v2 then
  some false
 else
 let e3:=a1.1==1
 let e4:=a1.1==2
 let e5:=(!e3)&&((a1.2.2.1 != 0)||(!(a1.2.2.2.1==[])))
 let e6:=(!e4)&&(!((a1.2.2.2.2.1==0)&&((a1.2.2.2.2.2.1==0)&&((a1.2.2.2.2.2.2.1==0)&&(a1.2.2.2.2.2.2.2==[])))))
 let e7:=a1.1==9
 let e8:=a1.1==7
 let e9:=a1.2.1==0
 bif e3 then
  Ya (Zib a1.2.1 1 20) fun v10=>
  bif !v10 then
   some false
  else
  Ya (Zib a1.2.2.1 0 4) fun v11=>
  bif (!v11)||(((a1.2.2.2.1.length):Int) != 32) then
   some false
  else
  bif e5 then
   some false
  else
  bif e4 then
   Ya (Zrh a1.2.2.2.2 8) fun v12=>
   bif (!v12)||e6 then
    some false
   else
   bif e3 then
    some true
   else
   bif e7 then
    Ya (Zib a1.2.1 1 24) fun v13=>
    some v13
   else
   bif e8 then
    Ya (Zib a1.2.1 0 1000000) fun v14=>
    some v14
   else
   some e9
  else
  bif e6 then
   some false
  else
  bif e3 then
   some true
  else
  bif e7 then
   Ya (Zib a1.2.1 1 24) fun v15=>
   some v15
  else
  bif e8 then
   Ya (Zib a1.2.1 0 1000000) fun v16=>
   some v16
  else
  some e9
 else
 bif e5 then
  some false
 else
 bif e4 then
  Ya (Zrh a1.2.2.2.2 8) fun v17=>
  bif (!v17)||e6 then
   some false
  else
  bif e3 then
   some true
  else
  bif e7 then
   Ya (Zib a1.2.1 1 24) fun v18=>
   some v18
  else
  bif e8 then
   Ya (Zib a1.2.1 0 1000000) fun v19=>
   some v19
  else
  some e9
 else
 bif e6 then
  some false
 else
 bif e3 then
  some true
 else
 bif e7 then
  Ya (Zib a1.2.1 1 24) fun v20=>
  some v20
 else
 bif e8 then
  Ya (Zib a1.2.1 0 1000000) fun v21=>
  some v21
 else
 some e9
def Zop.con (k:Nat):Con:=Sig.con { ps:=[.val true T31 (ros T31)],rs:=[.val false [.v .bool]],ntmps:=83 } (fun x=>Zop x)
theorem Zop.ok (k:Nat):Zf Tryz.prog 37 (Zop.con k):=fA (cX (cC (Zib.ok k) (cC (Zrh.ok k) cN))) Tryz.func37
def Zhm (k:Nat) (a1:G27) (a2:G31):Option (Int):=
 Ya (Zjn k a1) fun v3=>
 bif !v3 then
  some 1
 else
 Ya (Zop a2) fun v4=>
 bif !v4 then
  some 1
 else
 Ya (Zlk k a1.2) fun v5=>
 bif decide (1000000≤v5.1) then
  some 9
 else
 some 0
def Zhm.con (k:Nat):Con:=Sig.con { ps:=[.val true T27 (ros T27),.val true T31 (ros T31)],rs:=[.val false [.v (.int .i64)]],ntmps:=24 } (fun x=>Zhm k x.1 x.2)
theorem Zhm.ok (k:Nat):Zf Tryz.prog 17 (Zhm.con k):=fA (cXr true false (cC (Zjn.ok k) (cC (Zop.ok k) (cC (Zlk.ok k) cN)))) Tryz.func17
def Z7f (a1:Int):Option (List G89×Str×List Int×Int):=
 some ([],[],[],a1)
def Z7f.con (k:Nat):Con:=Sig.con { ps:=[.val false (.int .i64) (ros (.int .i64))],rs:=[.val true [.own 89 T89,.v .str,.own 2 (.int .i64),.v (.int .i64)]],ntmps:=5 } (fun x=>Z7f x)
theorem Z7f.ok (k:Nat):Zf Tryz.prog 18 (Z7f.con k):=fA (cX cN) Tryz.func18
def Z9i (a1:G59):Option (Int×Int×Int×Int×Int×Str×List Int×List Int):=
 Ya (Zu 8 [] a1.2.2.2.2.2.2.1) fun v2=>
 Ya (Zu 8 [] a1.2.2.2.2.2.2.2) fun v3=>
 some (a1.1,a1.2.1,a1.2.2.1,a1.2.2.2.1,a1.2.2.2.2.1,a1.2.2.2.2.2.1,v2,v3)
def Z9i.con (k:Nat):Con:=Sig.con { ps:=[.val true T59 (ros T59)],rs:=[.val true [.v (.int .i64),.v (.int .i64),.v (.int .i64),.v (.int .i64),.v (.int .i64),.v .str,.own 2 (.int .i64),.own 2 (.int .i64)]],ntmps:=14 } (fun x=>Z9i x)
theorem Z9i.ok (k:Nat):Zf Tryz.prog 42 (Z9i.con k):=fA (cX cN) Tryz.func42
def Ztp (k:Nat) (a1:G25) (a2:Str):Option (List G89):=
 Ya (Zlk k a1) fun v3=>
 bif decide (1000000≤v3.1) then
  some ([])
 else
 let e4:=(true,(0,[]))
 bif v3.2.2.2 != 0 then
  Ya (Zwj k (Yb .i64 (v3.1+1)) a2) fun v5=>
  some ([(false,(0,v5)),e4])
 else
 Ya (Zwj k (Yb .i64 (v3.1+1)) a2) fun v6=>
 some ([(false,(1,v6)),e4])
def Ztp.con (k:Nat):Con:=Sig.con { ps:=[.val true T25 (ros T25),.val false .str (ros .str)],rs:=[.val false [.own 89 T89]],ntmps:=28 } (fun x=>Ztp k x.1 x.2)
theorem Ztp.ok (k:Nat):Zf Tryz.prog 108 (Ztp.con k):=fA (cXr true false (cC (Zlk.ok k) (cC (Zwj.ok k) cN))) Tryz.func108
def Zwe (k:Nat) (a1:G27) (a2:G59):Option (List G89):=
 Ya (Zbl k a2) fun v3=>
 Ya (Ztp k a1.2 v3) fun v4=>
 some v4
def Zwe.con (k:Nat):Con:=Sig.con { ps:=[.val true T27 (ros T27),.val true T59 (ros T59)],rs:=[.val false [.own 89 T89]],ntmps:=10 } (fun x=>Zwe k x.1 x.2)
theorem Zwe.ok (k:Nat):Zf Tryz.prog 46 (Zwe.con k):=fA (cXr true false (cC (Ztp.ok k) (cC (Zbl.ok k) cN))) Tryz.func46
def Z1d.l0 (k:Nat):Nat→List Int→List Int→Int→List Int→Option ((List Int))
 | 0,_,_,_,_=>none
 | j+1,a1,a2,a3,a4=>
  bif decide (a3<24) then
   Ya (Z6c k a1 a3) fun v5=>
   let e6:=Yb .i64 (a3+1)
   bif !v5 then
    Ya (Z6c k a2 a3) fun v7=>
    bif !v7 then
     Ya (Zu 8 a4 [a3]) fun v8=>
     Z1d.l0 k j a1 a2 e6 v8
    else
    Z1d.l0 k j a1 a2 e6 a4
   else
   Z1d.l0 k j a1 a2 e6 a4
  else
  some a4
def Z1d (k:Nat) (a1:List Int) (a2:List Int):Option (List Int):=
 Ya (Z1d.l0 k k a1 a2 0 []) fun y3=>
 some y3
def Z1d.con (k:Nat):Con:=Sig.con { ps:=[.val false (.sl (.int .i64)) (ros (.sl (.int .i64))),.val false (.sl (.int .i64)) (ros (.sl (.int .i64)))],rs:=[.val false [.own 2 (.int .i64)]],ntmps:=27 } (fun x=>Z1d k x.1 x.2)
def Z1d.cok (k:Nat):=cX (cC (Z6c.ok k) cN)
def Z1d.l0.s (k:Nat):Summ:=lp 27 { tmps:=[(0,.one (.bor (.int .i64))),(1,.one (.bor (.int .i64))),(5,.one (.own 1)),(6,.one (.v (.int .i64)))],slots:=[(1,.arr false 2 (.int .i64))],nb:=2 } [(.exit 0,{ tmps:=[(5,.one (.own 2))],slots:=[(2,.arr false 2 (.int .i64))],nb:=3 })] (fun j x=>Z1d.l0 k j x.1 x.2.1 x.2.2.1 x.2.2.2) k
def Z1d.l0.ok (k:Nat):=(lA (Z1d.cok k):Zj Tryz.prog _ (.loop (cO (cO (cR (cL (cR (cR (cB Tryz.f115)))))))) (Z1d.l0.s k))
theorem Z1d.ok (k:Nat):Zf Tryz.prog 115 (Z1d.con k):=fP (.two .auto (.two .auto (.two (.two .auto (.one (.sum (Z1d.l0.s k)))) .auto))) (Z1d.cok k) Tryz.func115 (sC (Z1d.l0.ok k) sN)
def Zte.l0:Nat→List Int→Int→List Z2j→Option ((List Z2j))
 | 0,_,_,_=>none
 | j+1,a1,a2,a3=>
  bif decide (a2<((a1.length):Int)) then
   let e4:=Yb .i64 (a2+1)
   bif decide (0<a2) then
    Ya (at? a1 (Yb .i64 (a2-1))) fun v5=>
    Ya (at? a1 a2) fun v6=>
    bif (Yb .i64 (v5+1))==v6 then
     let e7:=Yb .i64 (((a3.length):Int)-1)
     let e8:=at? a3 e7
     Ya (e8) fun v9=>
     Ya (e8) fun v10=>
     Ya (e8) fun v11=>
     Ya (e8) fun v12=>
     Zte.l0 j a1 e4 (Yd a3 (Yc e7) (v12.1,(Yb .i64 (v10.2+1))))
    else
    Ya (at? a1 a2) fun v13=>
    Ya (Zu 16 a3 [(v13,1)]) fun v14=>
    Zte.l0 j a1 e4 v14
   else
   Ya (at? a1 a2) fun v15=>
   Ya (Zu 16 a3 [(v15,1)]) fun v16=>
   Zte.l0 j a1 e4 v16
  else
  some a3
def Zte (k:Nat) (a1:List Int):Option (List Z2j):=
 Ya (Zte.l0 k a1 0 []) fun y2=>
 some y2
def Zte.con (k:Nat):Con:=Sig.con { ps:=[.val false (.sl (.int .i64)) (ros (.sl (.int .i64)))],rs:=[.val false [.own 156 Zwh]],ntmps:=50 } (fun x=>Zte k x)
def Zte.cok (k:Nat):=cX cN
def Zte.l0.s (k:Nat):Summ:=lp 50 { tmps:=[(0,.one (.bor (.int .i64))),(3,.one (.own 1)),(4,.one (.v (.int .i64)))],slots:=[(1,.arr false 156 Zwh)],nb:=2 } [(.exit 0,{ tmps:=[(3,.one (.own 2))],slots:=[(2,.arr false 156 Zwh)],nb:=3 })] (fun j x=>Zte.l0 j x.1 x.2.1 x.2.2) k
def Zte.l0.ok (k:Nat):=(lA (Zte.cok k):Zj Tryz.prog _ (.loop (cO (cO (cR (cL (cR (cR (cB Tryz.f116)))))))) (Zte.l0.s k))
theorem Zte.ok (k:Nat):Zf Tryz.prog 116 (Zte.con k):=fP (.two .auto (.two .auto (.two (.two .auto (.one (.sum (Zte.l0.s k)))) .auto))) (Zte.cok k) Tryz.func116 (sC (Zte.l0.ok k) sN)
def Zac.l0:Nat→List Z2j→Int→Int→List Int→Option ((List Int))
 | 0,_,_,_,_=>none
 | j+1,a1,a2,a3,a4=>
  Ya (at? a1 a2) fun v5=>
  Ya (at? a1 a2) fun v6=>
  bif decide (a3<(Yb .i64 (v5.1+v6.2))) then
   Ya (at? a4 a3) fun v7=>
   Ya (at? a4 a3) fun v8=>
   Ya (at? a4 a3) fun v9=>
   Ya (at? a4 a3) fun v10=>
   Zac.l0 j a1 a2 (Yb .i64 (a3+1)) (Yd a4 (Yc a3) (Yb .i64 (v8+1)))
  else
  some a4
def Zac.l1 (k:Nat):Nat→List Z2j→Int→Int→List Int→List Int→Option ((Int×List Int×List Int) ⊕ (Int×List Int))
 | 0,_,_,_,_,_=>none
 | j+1,a1,a2,a3,a4,a5=>
  bif decide (a2<((a1.length):Int)) then
   Ya (at? a1 a2) fun v6=>
   bif decide (v6.2<1) then
    some (.inr (1,[]))
   else
   Ya (at? a1 a2) fun v7=>
   bif decide (24<v7.2) then
    some (.inr (1,[]))
   else
   Ya (at? a1 a2) fun v8=>
   bif decide (v8.1<0) then
    some (.inr (1,[]))
   else
   Ya (at? a1 a2) fun v9=>
   Ya (at? a1 a2) fun v10=>
   bif decide ((Yb .i64 (24-v10.2))<v9.1) then
    some (.inr (1,[]))
   else
   Ya (at? a1 a2) fun v11=>
   Ya (Zac.l0 k a1 a2 v11.1 a4) fun y12=>
   Zac.l1 k j a1 (Yb .i64 (a2+1)) a3 y12 a5
  else
  some (.inl (a3,a4,a5))
def Zac.l2:Nat→Int→Int→List Int→List Int→List Int→Option ((Int×List Int×List Int) ⊕ (Int×List Int))
 | 0,_,_,_,_,_=>none
 | j+1,a1,a2,a3,a4,a5=>
  bif decide (a1<24) then
   Ya (at? a3 a1) fun v6=>
   Ya (at? a3 a1) fun v7=>
   bif decide (1<v7) then
    some (.inr (12,[]))
   else
   Ya (at? a3 a1) fun v8=>
   Ya (at? a3 a1) fun v9=>
   let e10:=Yb .i64 (a1+1)
   bif v9==1 then
    Ya (Zu 8 a4 [a1]) fun v11=>
    Zac.l2 j e10 a2 a3 v11 a5
   else
   Zac.l2 j e10 a2 a3 a4 a5
  else
  some (.inl (a2,a4,a5))
def Zac (k:Nat) (a1:List Z2j):Option (List Int×Int):=
 bif decide (400<((a1.length):Int)) then
  some ([],2)
 else
 Ya (Zlg 8 24 24 0) fun v2=>
 Ya (Zac.l1 k k a1 0 0 v2 []) fun
  | .inl y3=>
   Ya (Zac.l2 k 0 y3.1 y3.2.1 [] y3.2.2) fun
    | .inl y4=>
     some (y4.2.1,0)
    | .inr y5=>
     some (y5.2,y5.1)
  | .inr y6=>
   some (y6.2,y6.1)
def Zac.con (k:Nat):Con:=Sig.con { ps:=[.val false (.sl Zwh) (ros (.sl Zwh))],rs:=[.val true [.own 2 (.int .i64),.v (.int .i64)]],ntmps:=106 } (fun x=>Zac k x)
def Zac.cok (k:Nat):=cX cN
def Zac.l0.s (k:Nat):Summ:=lp 106 { tmps:=[(0,.one (.bor Zwh)),(3,.one (.own 4)),(4,.one (.v (.int .i64))),(5,.one (.v (.int .i64)))],slots:=[(4,.arr false 2 (.int .i64))],nb:=5 } [(.exit 2,{ tmps:=[(3,.one (.own 5))],slots:=[(5,.arr false 2 (.int .i64))],nb:=6 })] (fun j x=>Zac.l0 j x.1 x.2.1 x.2.2.1 x.2.2.2) k
def Zac.l0.ok (k:Nat):=(lA (Zac.cok k):Zj Tryz.prog _ (.loop (cO (cO (cR (cR (cO (cL (cR (cO (cO (cR (cL (cR (cR (cR (cB Tryz.f117)))))))))))))))) (Zac.l0.s k))
def Zac.l1.s (k:Nat):Summ:=lp 106 { tmps:=[(0,.one (.bor Zwh)),(2,.one (.ptr 0 0)),(3,.one (.own 2)),(4,.one (.v (.int .i64)))],slots:=[(0,.box 92 [.own 3,.v (.int .i64)]),(2,.arr false 2 (.int .i64)),(3,.arr false 2 (.int .i64))],nb:=4 } [(.exit 0,{ tmps:=[(3,.one (.own 4))],slots:=[(0,.box 92 [.own 5,.v (.int .i64)]),(4,.arr false 2 (.int .i64)),(5,.arr false 2 (.int .i64))],nb:=6 }),(.ret,{ tmps:=[],slots:=[(0,.box 92 [.own 4,.v (.int .i64)]),(4,.arr false 2 (.int .i64))],nb:=5 })] (fun j x=>Zac.l1 k j x.1 x.2.1 x.2.2.1 x.2.2.2.1 x.2.2.2.2) k
def Zac.l1.ok (k:Nat):=(lP (.two .auto (.two (.one (.two .auto (.two .auto (.one (.sum (Zac.l0.s k)))))) .auto)) (Zac.cok k) (sC (Zac.l0.ok k) sN):Zj Tryz.prog _ (.loop (cO (cO (cR (cL (cR (cR (cR (cB Tryz.f117))))))))) (Zac.l1.s k))
def Zac.l2.s (k:Nat):Summ:=lp 106 { tmps:=[(2,.one (.ptr 0 0)),(3,.one (.own 7)),(6,.one (.own 8)),(7,.one (.v (.int .i64)))],slots:=[(0,.box 92 [.own 9,.v (.int .i64)]),(7,.arr false 2 (.int .i64)),(8,.arr false 2 (.int .i64)),(9,.arr false 2 (.int .i64))],nb:=10 } [(.exit 4,{ tmps:=[(6,.one (.own 10))],slots:=[(0,.box 92 [.own 11,.v (.int .i64)]),(10,.arr false 2 (.int .i64)),(11,.arr false 2 (.int .i64))],nb:=12 }),(.ret,{ tmps:=[],slots:=[(0,.box 92 [.own 10,.v (.int .i64)]),(10,.arr false 2 (.int .i64))],nb:=11 })] (fun j x=>Zac.l2 j x.1 x.2.1 x.2.2.1 x.2.2.2.1 x.2.2.2.2) k
def Zac.l2.ok (k:Nat):=(lA (Zac.cok k):Zj Tryz.prog _ (.loop (cO (cO (cR (cL (cR (cR (cR (cR (cR (cB Tryz.f117))))))))))) (Zac.l2.s k))
theorem Zac.ok (k:Nat):Zf Tryz.prog 117 (Zac.con k):=fP (.two .auto (.two .auto (.two .auto (.two (.two .auto (.one (.sum (Zac.l1.s k)))) (.two .auto (.two (.two .auto (.one (.sum (Zac.l2.s k)))) .auto)))))) (Zac.cok k) Tryz.func117 (sC (Zac.l1.ok k) (sC (Zac.l2.ok k) sN))
def Zsp (a1:Int) (a2:Int):Option (Int):=
 bif decide (a2<a1) then
  some a1
 else
 some a2
def Zsp.con (k:Nat):Con:=Sig.con { ps:=[.val false (.int .i64) (ros (.int .i64)),.val false (.int .i64) (ros (.int .i64))],rs:=[.val false [.v (.int .i64)]],ntmps:=10 } (fun x=>Zsp x.1 x.2)
theorem Zsp.ok (k:Nat):Zf Tryz.prog 118 (Zsp.con k):=fA (cX cN) Tryz.func118
def Z0c.l0 (k:Nat):Nat→Int→Int→Int→List Z2j→List Int→Option ((Int×List Int) ⊕ (List Int×Int))
 | 0,_,_,_,_,_=>none
 | j+1,a1,a2,a3,a4,a5=>
  bif decide (a2<((a4.length):Int)) then
   Ya (at? a4 a2) fun v6=>
   Ya (at? a4 a2) fun v7=>
   bif decide (a1≤v7.2) then
    Ya (at? a4 a2) fun v8=>
    Ya (at? a4 a2) fun v9=>
    Ya (Zsp 1 a1) fun v10=>
    Ya (Zac k [(v9.1,v10)]) fun v11=>
    Ya (Z8b v11.1 0 a1) fun v12=>
    some (.inr (v12,0))
   else
   Z0c.l0 k j a1 (Yb .i64 (a2+1)) a3 a4 a5
  else
  some (.inl (a3,a5))
def Z0c (k:Nat) (a1:List Int) (a2:List Int) (a3:Int):Option (List Int×Int):=
 Ya (Z1d k a1 a2) fun v4=>
 bif decide (((v4.length):Int)<a3) then
  some ([],11)
 else
 Ya (Zte k v4) fun v5=>
 Ya (Z0c.l0 k k a3 0 0 v5 []) fun
  | .inl y6=>
   Ya (Z8b v4 0 a3) fun v7=>
   some (v7,0)
  | .inr y8=>
   some (y8.1,y8.2)
def Z0c.con (k:Nat):Con:=Sig.con { ps:=[.val false (.sl (.int .i64)) (ros (.sl (.int .i64))),.val false (.sl (.int .i64)) (ros (.sl (.int .i64))),.val false (.int .i64) (ros (.int .i64))],rs:=[.val true [.v (.sl (.int .i64)),.v (.int .i64)]],ntmps:=51 } (fun x=>Z0c k x.1 x.2.1 x.2.2)
def Z0c.cok (k:Nat):=cX (cC (Z1d.ok k) (cC (Zte.ok k) (cC (Zac.ok k) (cC (Zsp.ok k) cN))))
def Z0c.l0.s (k:Nat):Summ:=lp 51 { tmps:=[(2,.one (.v (.int .i64))),(6,.one (.ptr 0 0)),(8,.one (.own 3)),(9,.one (.v (.int .i64)))],slots:=[(0,.box 92 [.own 4,.v (.int .i64)]),(3,.arr false 156 Zwh),(4,.arr false 2 (.int .i64))],nb:=5 } [(.exit 0,{ tmps:=[],slots:=[(0,.box 92 [.own 5,.v (.int .i64)]),(5,.arr false 2 (.int .i64))],nb:=6 }),(.ret,{ tmps:=[],slots:=[(0,.box 92 [.v (.sl (.int .i64)),.v (.int .i64)])],nb:=5 })] (fun j x=>Z0c.l0 k j x.1 x.2.1 x.2.2.1 x.2.2.2.1 x.2.2.2.2) k
def Z0c.l0.ok (k:Nat):=(lA (Z0c.cok k):Zj Tryz.prog _ (.loop (cO (cO (cR (cL (cR (cR (cR (cR (cB Tryz.f51)))))))))) (Z0c.l0.s k))
theorem Z0c.ok (k:Nat):Zf Tryz.prog 51 (Z0c.con k):=fP (.two .auto (.two .auto (.two .auto (.two .auto (.two (.two .auto (.one (.sum (Z0c.l0.s k)))) .auto))))) (Z0c.cok k) Tryz.func51 (sC (Z0c.l0.ok k) sN)
def Zve.l0:Nat→Int→List Str→List Zjb→Int→List Int→Int→Str→Int→List G89→List Int→Option ((List Int×Int×Str×Int×List G89×List Int))
 | 0,_,_,_,_,_,_,_,_,_,_=>none
 | j+1,a1,a2,a3,a4,a5,a6,a7,a8,a9,a10=>
  bif decide (a4<((a5.length):Int)) then
   Ya (at? a5 a4) fun v11=>
   Ya (Zng (a1,(a2,a3)) v11) fun v12=>
   Ya (Zu 32 a9 ([(false,(v12,[]))])) fun v13=>
   Zve.l0 j a1 a2 a3 (Yb .i64 (a4+1)) a5 a6 a7 a8 v13 a10
  else
  some (a5,a6,a7,a8,a9,a10)
def Zve (k:Nat) (a1:G27) (a2:G59) (a3:G31):Option (List G89×Str×List Int×Int):=
 bif a2.1 != 1 then
  Ya (Z7f 10) fun v4=>
  some (v4.1,v4.2.1,v4.2.2.1,v4.2.2.2)
 else
 Ya (Z0c k a2.2.2.2.2.2.2.1 [] (Yb .i64 (a3.2.1+a3.2.2.1))) fun v5=>
 bif v5.2 != 0 then
  Ya (Z7f v5.2) fun v6=>
  some (v6.1,v6.2.1,v6.2.2.1,v6.2.2.2)
 else
 Ya (Zve.l0 k a1.1 a1.2.1 a1.2.2 0 v5.1 v5.2 [] 0 [] []) fun y7=>
 Ya (Zu 32 y7.2.2.2.2.1 ([(true,(0,[]))])) fun v8=>
 Ya (Zwe k a1 (2,(0,(a3.2.1,(a3.2.2.1,(0,(a3.2.2.2.1,(a2.2.2.2.2.2.2.1,y7.1)))))))) fun v9=>
 Ya (Zu 32 v8 v9) fun v10=>
 some (v10,y7.2.2.1,y7.2.2.2.2.2,y7.2.2.2.1)
def Zve.con (k:Nat):Con:=Sig.con { ps:=[.val true T27 (ros T27),.val true T59 (ros T59),.val true T31 (ros T31)],rs:=[.val true [.own 89 T89,.v .str,.own 2 (.int .i64),.v (.int .i64)]],ntmps:=75 } (fun x=>Zve k x.1 x.2.1 x.2.2)
def Zve.cok (k:Nat):=cXr true false (cC (Z7f.ok k) (cC (Zwe.ok k) (cC (Z0c.ok k) (cC (Zng.ok k) cN))))
def Zve.l0.s (k:Nat):Summ:=lp 75 { tmps:=[(3,.eptr [.v (.int .i64),.bor .str,.bor Z2]),(7,.one (.ptr 2 0)),(8,.one (.ptr 3 0)),(9,.one (.v (.int .i64)))],slots:=[(2,.box 92 [.v (.sl (.int .i64)),.v (.int .i64)]),(3,.box 37 [.own 4,.v .str,.own 5,.v (.int .i64)]),(4,.arr false 89 T89),(5,.arr false 2 (.int .i64))],nb:=6 } [(.exit 0,{ tmps:=[],slots:=[(2,.box 92 [.v (.sl (.int .i64)),.v (.int .i64)]),(3,.box 37 [.own 6,.v .str,.own 7,.v (.int .i64)]),(6,.arr false 89 T89),(7,.arr false 2 (.int .i64))],nb:=8 })] (fun j x=>Zve.l0 j x.1 x.2.1 x.2.2.1 x.2.2.2.1 x.2.2.2.2.1 x.2.2.2.2.2.1 x.2.2.2.2.2.2.1 x.2.2.2.2.2.2.2.1 x.2.2.2.2.2.2.2.2.1 x.2.2.2.2.2.2.2.2.2) k
def Zve.l0.ok (k:Nat):=(lA (Zve.cok k):Zj Tryz.prog _ (.loop (cO (cO (cR (cL (cR (cR (cR (cR (cR (cB Tryz.f43))))))))))) (Zve.l0.s k))
theorem Zve.ok (k:Nat):Zf Tryz.prog 43 (Zve.con k):=fP (.two .auto (.two .auto (.two .auto (.two .auto (.two .auto (.two (.two .auto (.one (.sum (Zve.l0.s k)))) .auto)))))) (Zve.cok k) Tryz.func43 (sC (Zve.l0.ok k) sN)
def Zxp (k:Nat) (a1:G27) (a2:G59) (a3:G31):Option (List G89×Str×List Int×Int):=
 bif a2.1 != 2 then
  Ya (Z7f 10) fun v4=>
  some (v4.1,v4.2.1,v4.2.2.1,v4.2.2.2)
 else
 Ya (Zgc k a1 a2) fun v5=>
 bif decide (a2.2.2.1≤((v5.length):Int)) then
  Ya (Z7f 9) fun v6=>
  some (v6.1,v6.2.1,v6.2.2.1,v6.2.2.2)
 else
 Ya (Zu 40 [] v5) fun v7=>
 Ya (Zu 40 v7 [a3.2.2.2.2]) fun v8=>
 Ya (Zp k v8 a1.1) fun v9=>
 bif v9 != 0 then
  Ya (Z7f v9) fun v10=>
  some (v10.1,v10.2.1,v10.2.2.1,v10.2.2.2)
 else
 Ya (at? a2.2.2.2.2.2.2.2 (Yb .i64 (a2.2.2.2.1+((v5.length):Int)))) fun v11=>
 Ya (Zng a1 v11) fun v12=>
 Ya (Zhk k ((v5.length):Int) a3.2.2.2.2) fun v13=>
 let e14:=[(false,(v12,v13))]
 bif a3.2.2.2.2.1==5 then
  Ya (Zu 32 e14 ([(true,(0,[]))])) fun v15=>
  some (v15,[],[],0)
 else
 some (e14,[],[],0)
def Zxp.con (k:Nat):Con:=Sig.con { ps:=[.val true T27 (ros T27),.val true T59 (ros T59),.val true T31 (ros T31)],rs:=[.val true [.own 89 T89,.v .str,.own 2 (.int .i64),.v (.int .i64)]],ntmps:=67 } (fun x=>Zxp k x.1 x.2.1 x.2.2)
theorem Zxp.ok (k:Nat):Zf Tryz.prog 44 (Zxp.con k):=fA (cXr true false (cC (Z7f.ok k) (cC (Zng.ok k) (cC (Zgc.ok k) (cC (Zp.ok k) (cC (Zhk.ok k) cN)))))) Tryz.func44
def Zaj (a1:G59):Option (Int×Int×Int×Int×Int×Str×List Int×List Int):=
 Ya (Zu 8 [] a1.2.2.2.2.2.2.1) fun v2=>
 some (1,0,0,0,0,[],v2,[])
def Zaj.con (k:Nat):Con:=Sig.con { ps:=[.val true T59 (ros T59)],rs:=[.val true [.v (.int .i64),.v (.int .i64),.v (.int .i64),.v (.int .i64),.v (.int .i64),.v .str,.own 2 (.int .i64),.own 2 (.int .i64)]],ntmps:=8 } (fun x=>Zaj x)
theorem Zaj.ok (k:Nat):Zf Tryz.prog 47 (Zaj.con k):=fA (cXr true false cN) Tryz.func47
def Zup (a1:Int):Option (List Str×Int):=
 some ([],a1)
def Zup.con (k:Nat):Con:=Sig.con { ps:=[.val false (.int .i64) (ros (.int .i64))],rs:=[.val true [.own 9 .str,.v (.int .i64)]],ntmps:=5 } (fun x=>Zup x)
theorem Zup.ok (k:Nat):Zf Tryz.prog 207 (Zup.con k):=fA (cX cN) Tryz.func207
def Zer:Option (Str):=
 Ya (Zlg 1 8 8 0) fun v1=>
 some (Zlb v1)
def Zer.con (k:Nat):Con:=Sig.con { ps:=[],rs:=[.val false [.v .str]],ntmps:=3 } (fun x=>Zer )
theorem Zer.ok (k:Nat):Zf Tryz.prog 211 (Zer.con k):=fA (cX cN) Tryz.func211
def Zqf.l0:Nat→Str→Str→Int→List Int→Option ((List Int))
 | 0,_,_,_,_=>none
 | j+1,a1,a2,a3,a4=>
  bif decide (a3<8) then
   Ya (at? a1 a3) fun v5=>
   Ya (at? a2 a3) fun v6=>
   Ya (at? a4 a3) fun v7=>
   Ya (at? a4 a3) fun v8=>
   Zqf.l0 j a1 a2 (Yb .i64 (a3+1)) (Yd a4 (Yc a3) (intBits .xor .u8 (v5.toNat:Int) (v6.toNat:Int)))
  else
  some a4
def Zqf (k:Nat) (a1:Str) (a2:Str):Option (Str):=
 bif (((a1.length):Int) != 8)||(((a2.length):Int) != 8) then
  some ([])
 else
 Ya (Zlg 1 8 8 0) fun v3=>
 Ya (Zqf.l0 k a1 a2 0 v3) fun y4=>
 some (Zlb y4)
def Zqf.con (k:Nat):Con:=Sig.con { ps:=[.val false .str (ros .str),.val false .str (ros .str)],rs:=[.val false [.v .str]],ntmps:=32 } (fun x=>Zqf k x.1 x.2)
def Zqf.cok (k:Nat):=cX cN
def Zqf.l0.s (k:Nat):Summ:=lp 32 { tmps:=[(0,.one (.v .str)),(1,.one (.v .str)),(5,.one (.own 1)),(6,.one (.v (.int .i64)))],slots:=[(1,.arr false 5 (.int .u8))],nb:=2 } [(.exit 0,{ tmps:=[(5,.one (.own 2))],slots:=[(2,.arr false 5 (.int .u8))],nb:=3 })] (fun j x=>Zqf.l0 j x.1 x.2.1 x.2.2.1 x.2.2.2) k
def Zqf.l0.ok (k:Nat):=(lA (Zqf.cok k):Zj Tryz.prog _ (.loop (cO (cO (cR (cL (cR (cR (cR (cB Tryz.f212))))))))) (Zqf.l0.s k))
theorem Zqf.ok (k:Nat):Zf Tryz.prog 212 (Zqf.con k):=fP (.two .auto (.two .auto (.two .auto (.two (.two .auto (.one (.sum (Zqf.l0.s k)))) .auto)))) (Zqf.cok k) Tryz.func212 (sC (Zqf.l0.ok k) sN)
def Zmk (k:Nat) (a1:G29) (a2:Str):Option (Str):=
 bif a1.1==1 then
  Ya (Zer ) fun v3=>
  some v3
 else
 bif a1.1==2 then
  some a1.2.2.2
 else
 bif a1.1==3 then
  some a2
 else
 Ya (Zqf k a2 a1.2.2.2) fun v4=>
 some v4
def Zmk.con (k:Nat):Con:=Sig.con { ps:=[.val true T29 (ros T29),.val false .str (ros .str)],rs:=[.val false [.v .str]],ntmps:=21 } (fun x=>Zmk k x.1 x.2)
theorem Zmk.ok (k:Nat):Zf Tryz.prog 176 (Zmk.con k):=fA (cX (cC (Zer.ok k) (cC (Zqf.ok k) cN))) Tryz.func176
def Zbf.l0 (k:Nat):Nat→List Str→List G29→Int→List Str→Option ((List Str))
 | 0,_,_,_,_=>none
 | j+1,a1,a2,a3,a4=>
  bif decide (a3<((a2.length):Int)) then
   Ya (at? a2 a3) fun v5=>
   let e6:=Yb .i64 (a3+1)
   bif v5.1 != 5 then
    Ya (at? a2 a3) fun v7=>
    Ya (at? a2 a3) fun v8=>
    Ya (at? a2 a3) fun v9=>
    Ya (at? a1 v9.2.2.1) fun v10=>
    Ya (Zmk k v8 v10) fun v11=>
    let e12:=at? a4 v7.2.1
    Ya (e12) fun v13=>
    Ya (e12) fun v14=>
    Zbf.l0 k j a1 a2 e6 (Yd a4 (Yc v7.2.1) v11)
   else
   Zbf.l0 k j a1 a2 e6 a4
  else
  some a4
def Zbf (k:Nat) (a1:List Str) (a2:List G29):Option (List Str):=
 Ya (Zu 16 [] a1) fun v3=>
 Ya (Zbf.l0 k k a1 a2 0 v3) fun y4=>
 some y4
def Zbf.con (k:Nat):Con:=Sig.con { ps:=[.val false (.sl .str) (ros (.sl .str)),.val false (.sl T29) (ros (.sl T29))],rs:=[.val false [.own 9 .str]],ntmps:=43 } (fun x=>Zbf k x.1 x.2)
def Zbf.cok (k:Nat):=cX (cC (Zmk.ok k) cN)
def Zbf.l0.s (k:Nat):Summ:=lp 43 { tmps:=[(0,.one (.bor .str)),(1,.one (.bor T29)),(5,.one (.own 2)),(6,.one (.v (.int .i64)))],slots:=[(2,.arr false 9 .str)],nb:=3 } [(.exit 0,{ tmps:=[(5,.one (.own 3))],slots:=[(3,.arr false 9 .str)],nb:=4 })] (fun j x=>Zbf.l0 k j x.1 x.2.1 x.2.2.1 x.2.2.2) k
def Zbf.l0.ok (k:Nat):=(lA (Zbf.cok k):Zj Tryz.prog _ (.loop (cO (cO (cR (cL (cR (cR (cB Tryz.f208)))))))) (Zbf.l0.s k))
theorem Zbf.ok (k:Nat):Zf Tryz.prog 208 (Zbf.con k):=fP (.two .auto (.two .auto (.two (.two .auto (.one (.sum (Zbf.l0.s k)))) .auto))) (Zbf.cok k) Tryz.func208 (sC (Zbf.l0.ok k) sN)
def Zcr (k:Nat) (a1:List Str) (a2:List G29):Option (List Str×Int):=
 bif (decide (400<((a1.length):Int)))||(decide (400<((a2.length):Int))) then
  Ya (Zup 2) fun v3=>
  some (v3.1,v3.2)
 else
 Ya (Zpc k a1) fun v4=>
 bif !v4 then
  Ya (Zup 1) fun v5=>
  some (v5.1,v5.2)
 else
 Ya (Zp k a2 ((a1.length):Int)) fun v6=>
 bif v6 != 0 then
  Ya (Zup v6) fun v7=>
  some (v7.1,v7.2)
 else
 Ya (Zbf k a1 a2) fun v8=>
 some (v8,0)
def Zcr.con (k:Nat):Con:=Sig.con { ps:=[.val false (.sl .str) (ros (.sl .str)),.val false (.sl T29) (ros (.sl T29))],rs:=[.val true [.own 9 .str,.v (.int .i64)]],ntmps:=31 } (fun x=>Zcr k x.1 x.2)
theorem Zcr.ok (k:Nat):Zf Tryz.prog 169 (Zcr.con k):=fA (cX (cC (Zpc.ok k) (cC (Zp.ok k) (cC (Zup.ok k) (cC (Zbf.ok k) cN))))) Tryz.func169
def Zfm (k:Nat) (a1:List Str) (a2:List G29):Option (List Str×Int):=
 Ya (Zcr k a1 a2) fun v3=>
 some (v3.1,v3.2)
def Zfm.con (k:Nat):Con:=Sig.con { ps:=[.val false (.sl .str) (ros (.sl .str)),.val false (.sl T29) (ros (.sl T29))],rs:=[.val true [.own 9 .str,.v (.int .i64)]],ntmps:=8 } (fun x=>Zfm k x.1 x.2)
theorem Zfm.ok (k:Nat):Zf Tryz.prog 104 (Zfm.con k):=fA (cX (cC (Zcr.ok k) cN)) Tryz.func104
def Zdt:Option (List Int):=
 some ([1779033703,3144134277,1013904242,2773480762,1359893119,2600822924,528734635,1541459225])
def Zdt.con (k:Nat):Con:=Sig.con { ps:=[],rs:=[.val false [.own 2 (.int .i64)]],ntmps:=2 } (fun x=>Zdt )
theorem Zdt.ok (k:Nat):Zf Tryz.prog 228 (Zdt.con k):=fA (cX cN) Tryz.func228
def Zsh (a1:Int) (a2:Int):Option (Int):=
 Ya (Zsb a2) fun v3=>
 let e4:=Yb .u64 (32-a2)
 Ya (Zsb e4) fun v5=>
 some (intBits .or .u32 (shr .u32 a1 a2) (shl .u32 a1 e4))
def Zsh.con (k:Nat):Con:=Sig.con { ps:=[.val false (.int .u32) (ros (.int .u32)),.val false (.int .u64) (ros (.int .u64))],rs:=[.val false [.v (.int .u32)]],ntmps:=13 } (fun x=>Zsh x.1 x.2)
theorem Zsh.ok (k:Nat):Zf Tryz.prog 239 (Zsh.con k):=fA (cX cN) Tryz.func239
def Zdr:Option (List Int):=
 some ([1116352408,1899447441,3049323471,3921009573,961987163,1508970993,2453635748,2870763221,3624381080,310598401,607225278,1426881987,1925078388,2162078206,2614888103,3248222580,3835390401,4022224774,264347078,604807628,770255983,1249150122,1555081692,1996064986,2554220882,2821834349,2952996808,3210313671,3336571891,3584528711,113926993,338241895,666307205,773529912,1294757372,1396182291,1695183700,1986661051,2177026350,2456956037,2730485921,2820302411,3259730800,3345764771,3516065817,3600352804,4094571909,275423344,430227734,506948616,659060556,883997877,958139571,1322822218,1537002063,1747873779,1955562222,2024104815,2227730452,2361852424,2428436474,2756734187,3204031479,3329325298])
def Zdr.con (k:Nat):Con:=Sig.con { ps:=[],rs:=[.val false [.own 233 (.int .u32)]],ntmps:=2 } (fun x=>Zdr )
theorem Zdr.ok (k:Nat):Zf Tryz.prog 240 (Zdr.con k):=fA (cX cN) Tryz.func240
def Z4.l0:Nat→Str→Int→List Int→Option ((List Int))
 | 0,_,_,_=>none
 | j+1,a1,a2,a3=>
  bif decide (a2<16) then
   let e4:=Yb .i64 (4*a2)
   Ya (at? a1 e4) fun v5=>
   Ya (Zsb 24) fun v6=>
   Ya (at? a1 (Yb .i64 (e4+1))) fun v7=>
   Ya (Zsb 16) fun v8=>
   Ya (at? a1 (Yb .i64 (e4+2))) fun v9=>
   Ya (Zsb 8) fun v10=>
   Ya (at? a1 (Yb .i64 (e4+3))) fun v11=>
   Ya (at? a3 a2) fun v12=>
   Ya (at? a3 a2) fun v13=>
   Z4.l0 j a1 (Yb .i64 (a2+1)) (Yd a3 (Yc a2) (intBits .or .u32 (intBits .or .u32 (intBits .or .u32 (shl .u32 (Yb .u32 (v5.toNat:Int)) 24) (shl .u32 (Yb .u32 (v7.toNat:Int)) 16)) (shl .u32 (Yb .u32 (v9.toNat:Int)) 8)) (Yb .u32 (v11.toNat:Int))))
  else
  some a3
def Z4.l1:Nat→Int→List Int→Option ((List Int))
 | 0,_,_=>none
 | j+1,a1,a2=>
  bif decide (a1<64) then
   let e3:=at? a2 (Yb .i64 (a1-15))
   Ya (e3) fun v4=>
   Ya (e3) fun v5=>
   let e6:=at? a2 (Yb .i64 (a1-2))
   Ya (e6) fun v7=>
   Ya (e6) fun v8=>
   let e9:=at? a2 (Yb .i64 (a1-16))
   Ya (e9) fun v10=>
   Ya (e9) fun v11=>
   Ya (Zsh v5 7) fun v12=>
   Ya (Zsh v5 18) fun v13=>
   Ya (Zsb 3) fun v14=>
   let e15:=at? a2 (Yb .i64 (a1-7))
   Ya (e15) fun v16=>
   Ya (e15) fun v17=>
   Ya (Zsh v8 17) fun v18=>
   Ya (Zsh v8 19) fun v19=>
   Ya (Zsb 10) fun v20=>
   Ya (at? a2 a1) fun v21=>
   Ya (at? a2 a1) fun v22=>
   Z4.l1 j (Yb .i64 (a1+1)) (Yd a2 (Yc a1) (Yb .u32 ((Yb .u32 ((Yb .u32 (v11+(intBits .xor .u32 (intBits .xor .u32 v12 v13) (shr .u32 v5 3))))+v17))+(intBits .xor .u32 (intBits .xor .u32 v18 v19) (shr .u32 v8 10)))))
  else
  some a2
def Z4.l2:Nat→Int→Int→Int→Int→Int→Int→Int→Int→Int→List Int→List Int→Option ((Int×Int×Int×Int×Int×Int×Int×Int))
 | 0,_,_,_,_,_,_,_,_,_,_,_=>none
 | j+1,a1,a2,a3,a4,a5,a6,a7,a8,a9,a10,a11=>
  bif decide (a9<64) then
   Ya (Zsh a5 6) fun v12=>
   Ya (Zsh a5 11) fun v13=>
   Ya (Zsh a5 25) fun v14=>
   Ya (at? a11 a9) fun v15=>
   Ya (at? a11 a9) fun v16=>
   Ya (at? a10 a9) fun v17=>
   Ya (at? a10 a9) fun v18=>
   Ya (Zsh a1 2) fun v19=>
   Ya (Zsh a1 13) fun v20=>
   Ya (Zsh a1 22) fun v21=>
   let e22:=Yb .u32 ((Yb .u32 ((Yb .u32 ((Yb .u32 (a8+(intBits .xor .u32 (intBits .xor .u32 v12 v13) v14)))+(intBits .xor .u32 (intBits .and .u32 a5 a6) (intBits .and .u32 (intBits .xor .u32 (Ye .u32) a5) a7))))+v16))+v18)
   Z4.l2 j (Yb .u32 (e22+(Yb .u32 ((intBits .xor .u32 (intBits .xor .u32 v19 v20) v21)+(intBits .xor .u32 (intBits .xor .u32 (intBits .and .u32 a1 a2) (intBits .and .u32 a1 a3)) (intBits .and .u32 a2 a3)))))) a1 a2 a3 (Yb .u32 (a4+e22)) a5 a6 a7 (Yb .i64 (a9+1)) a10 a11
  else
  some (a1,a2,a3,a4,a5,a6,a7,a8)
def Z4.l3:Nat→List Int→Int→List Int→List Int→Option ((List Int))
 | 0,_,_,_,_=>none
 | j+1,a1,a2,a3,a4=>
  bif decide (a2<8) then
   Ya (at? a1 a2) fun v5=>
   Ya (at? a3 a2) fun v6=>
   Ya (at? a3 a2) fun v7=>
   Ya (Zu 8 a4 [(Yb .i64 (Yb .u32 ((Yb .u32 v5)+v7)))]) fun v8=>
   Z4.l3 j a1 (Yb .i64 (a2+1)) a3 v8
  else
  some a4
def Z4 (k:Nat) (a1:List Int) (a2:Str):Option (List Int):=
 Ya (Zlg 4 64 64 0) fun v3=>
 Ya (Z4.l0 k a2 0 v3) fun y4=>
 Ya (Z4.l1 k 16 y4) fun y5=>
 Ya (at? a1 0) fun v6=>
 Ya (at? a1 1) fun v7=>
 Ya (at? a1 2) fun v8=>
 Ya (at? a1 3) fun v9=>
 Ya (at? a1 4) fun v10=>
 Ya (at? a1 5) fun v11=>
 Ya (at? a1 6) fun v12=>
 Ya (at? a1 7) fun v13=>
 Ya (Zdr ) fun v14=>
 Ya (Z4.l2 k (Yb .u32 v6) (Yb .u32 v7) (Yb .u32 v8) (Yb .u32 v9) (Yb .u32 v10) (Yb .u32 v11) (Yb .u32 v12) (Yb .u32 v13) 0 y5 v14) fun y15=>
 Ya (Z4.l3 k a1 0 [y15.1,y15.2.1,y15.2.2.1,y15.2.2.2.1,y15.2.2.2.2.1,y15.2.2.2.2.2.1,y15.2.2.2.2.2.2.1,y15.2.2.2.2.2.2.2] []) fun y16=>
 some y16
def Z4.con (k:Nat):Con:=Sig.con { ps:=[.val false (.sl (.int .i64)) (ros (.sl (.int .i64))),.val false .str (ros .str)],rs:=[.val false [.own 2 (.int .i64)]],ntmps:=235 } (fun x=>Z4 k x.1 x.2)
def Z4.cok (k:Nat):=cX (cC (Zsh.ok k) (cC (Zdr.ok k) cN))
def Z4.l0.s (k:Nat):Summ:=lp 235 { tmps:=[(1,.one (.v .str)),(5,.one (.own 1)),(6,.one (.v (.int .i64)))],slots:=[(1,.arr false 233 (.int .u32))],nb:=2 } [(.exit 0,{ tmps:=[(5,.one (.own 2))],slots:=[(2,.arr false 233 (.int .u32))],nb:=3 })] (fun j x=>Z4.l0 j x.1 x.2.1 x.2.2) k
def Z4.l0.ok (k:Nat):=(lA (Z4.cok k):Zj Tryz.prog _ (.loop (cO (cO (cR (cL (cR (cR (cB Tryz.f229)))))))) (Z4.l0.s k))
def Z4.l1.s (k:Nat):Summ:=lp 235 { tmps:=[(5,.one (.own 3)),(7,.one (.v (.int .i64)))],slots:=[(3,.arr false 233 (.int .u32))],nb:=4 } [(.exit 2,{ tmps:=[(5,.one (.own 4))],slots:=[(4,.arr false 233 (.int .u32))],nb:=5 })] (fun j x=>Z4.l1 j x.1 x.2) k
def Z4.l1.ok (k:Nat):=(lA (Z4.cok k):Zj Tryz.prog _ (.loop (cO (cO (cR (cL (cR (cR (cR (cB Tryz.f229))))))))) (Z4.l1.s k))
def Z4.l2.s (k:Nat):Summ:=lp 235 { tmps:=[(5,.one (.own 6)),(10,.one (.v (.int .u32))),(11,.one (.v (.int .u32))),(12,.one (.v (.int .u32))),(13,.one (.v (.int .u32))),(14,.one (.v (.int .u32))),(15,.one (.v (.int .u32))),(16,.one (.v (.int .u32))),(17,.one (.v (.int .u32))),(18,.one (.own 7)),(19,.one (.v (.int .i64)))],slots:=[(6,.arr false 233 (.int .u32)),(7,.arr false 233 (.int .u32))],nb:=8 } [(.exit 4,{ tmps:=[(10,.one (.v (.int .u32))),(11,.one (.v (.int .u32))),(12,.one (.v (.int .u32))),(13,.one (.v (.int .u32))),(14,.one (.v (.int .u32))),(15,.one (.v (.int .u32))),(16,.one (.v (.int .u32))),(17,.one (.v (.int .u32)))],slots:=[],nb:=8 })] (fun j x=>Z4.l2 j x.1 x.2.1 x.2.2.1 x.2.2.2.1 x.2.2.2.2.1 x.2.2.2.2.2.1 x.2.2.2.2.2.2.1 x.2.2.2.2.2.2.2.1 x.2.2.2.2.2.2.2.2.1 x.2.2.2.2.2.2.2.2.2.1 x.2.2.2.2.2.2.2.2.2.2) k
def Z4.l2.ok (k:Nat):=(lA (Z4.cok k):Zj Tryz.prog _ (.loop (cO (cO (cR (cL (cR (cR (cR (cR (cR (cR (cR (cB Tryz.f229))))))))))))) (Z4.l2.s k))
def Z4.l3.s (k:Nat):Summ:=lp 235 { tmps:=[(0,.one (.bor (.int .i64))),(22,.one (.own 10)),(23,.one (.own 11)),(24,.one (.v (.int .i64)))],slots:=[(10,.arr false 233 (.int .u32)),(11,.arr false 2 (.int .i64))],nb:=12 } [(.exit 6,{ tmps:=[(23,.one (.own 12))],slots:=[(12,.arr false 2 (.int .i64))],nb:=13 })] (fun j x=>Z4.l3 j x.1 x.2.1 x.2.2.1 x.2.2.2) k
def Z4.l3.ok (k:Nat):=(lA (Z4.cok k):Zj Tryz.prog _ (.loop (cO (cO (cR (cL (cR (cR (cR (cR (cR (cR (cR (cR (cR (cR (cB Tryz.f229)))))))))))))))) (Z4.l3.s k))
theorem Z4.ok (k:Nat):Zf Tryz.prog 229 (Z4.con k):=fP (.two .auto (.two .auto (.two (.two .auto (.one (.sum (Z4.l0.s k)))) (.two (.two .auto (.one (.sum (Z4.l1.s k)))) (.two .auto (.two .auto (.two .auto (.two (.two .auto (.one (.sum (Z4.l2.s k)))) (.two .auto (.two .auto (.two (.two .auto (.one (.sum (Z4.l3.s k)))) .auto))))))))))) (Z4.cok k) Tryz.func229 (sC (Z4.l0.ok k) (sC (Z4.l1.ok k) (sC (Z4.l2.ok k) (sC (Z4.l3.ok k) sN))))
def Z0.l0:Nat→List Int→Option ((List Int))
 | 0,_=>none
 | j+1,a1=>
  Ya (nz? 64) fun v2=>
  bif (Int.tmod ((a1.length):Int) 64) != 56 then
   Ya (Zu 1 a1 [0]) fun v3=>
   Z0.l0 j v3
  else
  some a1
def Z0.l1:Nat→Int→Int→List Int→Option ((List Int))
 | 0,_,_,_=>none
 | j+1,a1,a2,a3=>
  bif decide (0≤a2) then
   Ya (Zsb (Yb .u64 a2)) fun v4=>
   Ya (Zu 1 a3 [(Yb .u8 (shr .u64 a1 (Yb .u64 a2)))]) fun v5=>
   Z0.l1 j a1 (Yb .i64 (a2-8)) v5
  else
  some a3
def Z0.l2 (k:Nat):Nat→List Int→Int→List Int→Option ((List Int))
 | 0,_,_,_=>none
 | j+1,a1,a2,a3=>
  bif decide (a2<((a1.length):Int)) then
   let e4:=Yb .i64 (a2+64)
   Ya (Z8b a1 a2 e4) fun v5=>
   Ya (Z4 k a3 (Zlb v5)) fun v6=>
   Z0.l2 k j a1 e4 v6
  else
  some a3
def Z0.l3:Nat→Int→List Int→List Int→Option ((List Int))
 | 0,_,_,_=>none
 | j+1,a1,a2,a3=>
  bif decide (a1<8) then
   Ya (at? a2 a1) fun v4=>
   Ya (at? a2 a1) fun v5=>
   Ya (Zsb 24) fun v6=>
   Ya (Zsb 16) fun v7=>
   Ya (Zsb 8) fun v8=>
   Ya (Zu 1 a3 [(Yb .u8 (shr .i64 v5 24)),(Yb .u8 (shr .i64 v5 16)),(Yb .u8 (shr .i64 v5 8)),(Yb .u8 v5)]) fun v9=>
   Z0.l3 j (Yb .i64 (a1+1)) a2 v9
  else
  some a3
def Z0 (k:Nat) (a1:Str):Option (Str):=
 Ya (Zmv (a1.length) 1) fun v2=>
 Ya (Zu 1 (Zdb a1) [128]) fun v3=>
 Ya (Z0.l0 k v3) fun y4=>
 Ya (Z0.l1 k (Yb .u64 (Yb .i64 (8*((a1.length):Int)))) 56 y4) fun y5=>
 Ya (Zdt ) fun v6=>
 Ya (Z0.l2 k k y5 0 v6) fun y7=>
 Ya (Z0.l3 k 0 y7 []) fun y8=>
 some (Zlb y8)
def Z0.con (k:Nat):Con:=Sig.con { ps:=[.val false .str (ros .str)],rs:=[.val false [.v .str]],ntmps:=78 } (fun x=>Z0 k x)
def Z0.cok (k:Nat):=cX (cC (Zdt.ok k) (cC (Z4.ok k) cN))
def Z0.l0.s (k:Nat):Summ:=lp 78 { tmps:=[(3,.one (.own 3))],slots:=[(3,.arr true 5 (.int .u8))],nb:=4 } [(.exit 0,{ tmps:=[(3,.one (.own 4))],slots:=[(4,.arr true 5 (.int .u8))],nb:=5 })] (fun j x=>Z0.l0 j x) k
def Z0.l0.ok (k:Nat):=(lA (Z0.cok k):Zj Tryz.prog _ (.loop (cO (cO (cL (cR (cR (cB Tryz.f209))))))) (Z0.l0.s k))
def Z0.l1.s (k:Nat):Summ:=lp 78 { tmps:=[(3,.one (.own 5)),(4,.one (.v (.int .u64))),(5,.one (.v (.int .i64)))],slots:=[(5,.arr true 5 (.int .u8))],nb:=6 } [(.exit 2,{ tmps:=[(3,.one (.own 6))],slots:=[(6,.arr true 5 (.int .u8))],nb:=7 })] (fun j x=>Z0.l1 j x.1 x.2.1 x.2.2) k
def Z0.l1.ok (k:Nat):=(lA (Z0.cok k):Zj Tryz.prog _ (.loop (cO (cO (cR (cL (cR (cR (cR (cR (cB Tryz.f209)))))))))) (Z0.l1.s k))
def Z0.l2.s (k:Nat):Summ:=lp 78 { tmps:=[(3,.one (.v (.sl (.int .u8)))),(6,.one (.own 8)),(7,.one (.v (.int .i64)))],slots:=[(8,.arr false 2 (.int .i64))],nb:=9 } [(.exit 4,{ tmps:=[(6,.one (.own 9))],slots:=[(9,.arr false 2 (.int .i64))],nb:=10 })] (fun j x=>Z0.l2 k j x.1 x.2.1 x.2.2) k
def Z0.l2.ok (k:Nat):=(lA (Z0.cok k):Zj Tryz.prog _ (.loop (cO (cO (cR (cL (cR (cR (cR (cR (cR (cR (cB Tryz.f209)))))))))))) (Z0.l2.s k))
def Z0.l3.s (k:Nat):Summ:=lp 78 { tmps:=[(6,.one (.own 11)),(8,.one (.own 12)),(9,.one (.v (.int .i64)))],slots:=[(11,.arr false 2 (.int .i64)),(12,.arr false 5 (.int .u8))],nb:=13 } [(.exit 6,{ tmps:=[(8,.one (.own 13))],slots:=[(13,.arr false 5 (.int .u8))],nb:=14 })] (fun j x=>Z0.l3 j x.1 x.2.1 x.2.2) k
def Z0.l3.ok (k:Nat):=(lA (Z0.cok k):Zj Tryz.prog _ (.loop (cO (cO (cR (cL (cR (cR (cR (cR (cR (cR (cR (cR (cB Tryz.f209)))))))))))))) (Z0.l3.s k))
theorem Z0.ok (k:Nat):Zf Tryz.prog 209 (Z0.con k):=fP (.two .auto (.two .auto (.two (.one (.sum (Z0.l0.s k))) (.two .auto (.two (.two .auto (.one (.sum (Z0.l1.s k)))) (.two .auto (.two (.two .auto (.one (.sum (Z0.l2.s k)))) (.two .auto (.two (.two .auto (.one (.sum (Z0.l3.s k)))) .auto))))))))) (Z0.cok k) Tryz.func209 (sC (Z0.l0.ok k) (sC (Z0.l1.ok k) (sC (Z0.l2.ok k) (sC (Z0.l3.ok k) sN))))
def Zbr (k:Nat) (a1:Str):Option (Str):=
 bif decide (8000<((a1.length):Int)) then
  some ([])
 else
 Ya (Z0 k a1) fun v2=>
 some v2
def Zbr.con (k:Nat):Con:=Sig.con { ps:=[.val false .str (ros .str)],rs:=[.val false [.v .str]],ntmps:=8 } (fun x=>Zbr k x)
theorem Zbr.ok (k:Nat):Zf Tryz.prog 170 (Zbr.con k):=fA (cX (cC (Z0.ok k) cN)) Tryz.func170
def Zue.l0:Nat→List Str→Str→Int→Option (Str)
 | 0,_,_,_=>none
 | j+1,a1,a2,a3=>
  bif decide (a3<((a1.length):Int)) then
   Ya (at? a1 a3) fun v4=>
   Ya (Zmc a2 v4) fun v5=>
   Zue.l0 j a1 v5 (Yb .i64 (a3+1))
  else
  some a2
def Zue (k:Nat) (a1:List Str):Option (Str):=
 Ya (Zue.l0 k a1 [] 0) fun y2=>
 some y2
def Zue.con (k:Nat):Con:=Sig.con { ps:=[.val false (.sl .str) (ros (.sl .str))],rs:=[.val false [.v .str]],ntmps:=18 } (fun x=>Zue k x)
def Zue.cok (k:Nat):=cX cN
def Zue.l0.s (k:Nat):Summ:=lp 18 { tmps:=[(0,.one (.bor .str)),(3,.one (.v .str)),(4,.one (.v (.int .i64)))],slots:=[],nb:=0 } [(.exit 0,{ tmps:=[(3,.one (.v .str))],slots:=[],nb:=0 })] (fun j x=>Zue.l0 j x.1 x.2.1 x.2.2) k
def Zue.l0.ok (k:Nat):=(lA (Zue.cok k):Zj Tryz.prog _ (.loop (cO (cO (cR (cL (cR (cR (cB Tryz.f171)))))))) (Zue.l0.s k))
theorem Zue.ok (k:Nat):Zf Tryz.prog 171 (Zue.con k):=fP (.two .auto (.two .auto (.two (.two .auto (.one (.sum (Zue.l0.s k)))) .auto))) (Zue.cok k) Tryz.func171 (sC (Zue.l0.ok k) sN)
def Zin (k:Nat) (a1:List Str):Option (Str):=
 Ya (Zpc k a1) fun v2=>
 bif !v2 then
  some ([])
 else
 Ya (Zue k a1) fun v3=>
 Ya (Zbr k v3) fun v4=>
 some v4
def Zin.con (k:Nat):Con:=Sig.con { ps:=[.val false (.sl .str) (ros (.sl .str))],rs:=[.val false [.v .str]],ntmps:=9 } (fun x=>Zin k x)
theorem Zin.ok (k:Nat):Zf Tryz.prog 105 (Zin.con k):=fA (cX (cC (Zpc.ok k) (cC (Zbr.ok k) (cC (Zue.ok k) cN)))) Tryz.func105
end Go.Proofs.Qz
namespace Go.Proofs.Qz
open Go Go.RowKit
set_option linter.unusedVariables false
set_option linter.defProp false
def Zwp (k:Nat) (a1:G27) (a2:G59):Option (List G89×Str×List Int×Int):=
 bif a2.1 != 2 then
  Ya (Z7f 10) fun v3=>
  some (v3.1,v3.2.1,v3.2.2.1,v3.2.2.2)
 else
 Ya (Zgc k a1 a2) fun v4=>
 Ya (Z2d k a1) fun v5=>
 Ya (Zfm k v5 v4) fun v6=>
 Ya (Zaj a2) fun v7=>
 Ya (Zwe k a1 v7) fun v8=>
 bif ((v4.length):Int) != a2.2.2.1 then
  some (v8,[],[],4)
 else
 bif v6.2 != 0 then
  some (v8,[],[],5)
 else
 Ya (Zin k v6.1) fun v9=>
 bif !(v9==a2.2.2.2.2.2.1) then
  some (v8,[],[],5)
 else
 Ya (Z8i k v4 a1.1) fun v10=>
 Ya (Zfe k v10.1) fun v11=>
 bif decide (a2.2.2.2.1<v11) then
  some (v8,[],[],11)
 else
 Ya (Z9i a2) fun v12=>
 Ya (Zwe k a1 (3,v12.2)) fun v13=>
 Ya (Zu 32 ([(true,(0,[]))]) v13) fun v14=>
 some (v14,[],[],0)
def Zwp.con (k:Nat):Con:=Sig.con { ps:=[.val true T27 (ros T27),.val true T59 (ros T59)],rs:=[.val true [.own 89 T89,.v .str,.own 2 (.int .i64),.v (.int .i64)]],ntmps:=68 } (fun x=>Zwp k x.1 x.2)
theorem Zwp.ok (k:Nat):Zf Tryz.prog 45 (Zwp.con k):=fA (cXr true false (cC (Z7f.ok k) (cC (Z9i.ok k) (cC (Zwe.ok k) (cC (Zaj.ok k) (cC (Z2d.ok k) (cC (Zgc.ok k) (cC (Zfm.ok k) (cC (Zin.ok k) (cC (Zfe.ok k) (cC (Z8i.ok k) cN))))))))))) Tryz.func45
def Zbj (k:Nat) (a1:G27) (a2:G59):Option (List Z7c):=
 Ya (Zgc k a1 a2) fun v3=>
 Ya (Z8i k v3 a1.1) fun v4=>
 some v4.1
def Zbj.con (k:Nat):Con:=Sig.con { ps:=[.val true T27 (ros T27),.val true T59 (ros T59)],rs:=[.val false [.own 107 Z2b]],ntmps:=12 } (fun x=>Zbj k x.1 x.2)
theorem Zbj.ok (k:Nat):Zf Tryz.prog 110 (Zbj.con k):=fA (cXr true false (cC (Zgc.ok k) (cC (Z8i.ok k) cN))) Tryz.func110
def Zhd.l0:Nat→List Z7c→Int→Int→Int→Option (Unit ⊕ Int)
 | 0,_,_,_,_=>none
 | j+1,a1,a2,a3,a4=>
  bif decide (a4<a2) then
   Ya (at? a1 a4) fun v5=>
   let e6:=Yb .i64 (a4+1)
   bif v5.1==1 then
    Ya (at? a1 a4) fun v7=>
    bif v7.2.2.1==a3 then
     Ya (at? a1 a4) fun v8=>
     some (.inr (v8.2.2.2))
    else
    Zhd.l0 j a1 a2 a3 e6
   else
   Zhd.l0 j a1 a2 a3 e6
  else
  some (.inl ())
def Zhd (k:Nat) (a1:List Z7c) (a2:Int) (a3:Int):Option (Int):=
 Ya (Zhd.l0 k a1 a2 a3 0) fun
  | .inl y4=>
   some (-1)
  | .inr y5=>
   some y5
def Zhd.con (k:Nat):Con:=Sig.con { ps:=[.val false (.sl Z2b) (ros (.sl Z2b)),.val false (.int .i64) (ros (.int .i64)),.val false (.int .i64) (ros (.int .i64))],rs:=[.val false [.v (.int .i64)]],ntmps:=33 } (fun x=>Zhd k x.1 x.2.1 x.2.2)
def Zhd.cok (k:Nat):=cX cN
def Zhd.l0.s (k:Nat):Summ:=lp 33 { tmps:=[(0,.one (.bor Z2b)),(1,.one (.v (.int .i64))),(2,.one (.v (.int .i64))),(7,.one (.v (.int .i64)))],slots:=[],nb:=0 } [(.exit 0,{ tmps:=[],slots:=[],nb:=0 }),(.ret,{ tmps:=[(6,.one (.v (.int .i64)))],slots:=[],nb:=0 })] (fun j x=>Zhd.l0 j x.1 x.2.1 x.2.2.1 x.2.2.2) k
def Zhd.l0.ok (k:Nat):=(lA (Zhd.cok k):Zj Tryz.prog _ (.loop (cO (cO (cR (cL (cR (cB Tryz.f174))))))) (Zhd.l0.s k))
theorem Zhd.ok (k:Nat):Zf Tryz.prog 174 (Zhd.con k):=fP (.two .auto (.two (.two .auto (.one (.sum (Zhd.l0.s k)))) .auto)) (Zhd.cok k) Tryz.func174 (sC (Zhd.l0.ok k) sN)
def Zvp (k:Nat) (a1:G27) (a2:G59) (a3:Int):Option (Str):=
 Ya (at? a2.2.2.2.2.2.2.2 a3) fun v4=>
 Ya (Zng a1 v4) fun v5=>
 Ya (Zpb k a1.2 v5) fun v6=>
 some v6
def Zvp.con (k:Nat):Con:=Sig.con { ps:=[.val true T27 (ros T27),.val true T59 (ros T59),.val false (.int .i64) (ros (.int .i64))],rs:=[.val false [.v .str]],ntmps:=17 } (fun x=>Zvp k x.1 x.2.1 x.2.2)
theorem Zvp.ok (k:Nat):Zf Tryz.prog 175 (Zvp.con k):=fA (cXr true false (cC (Zpb.ok k) (cC (Zng.ok k) cN))) Tryz.func175
def Zim (k:Nat) (a1:G27) (a2:G59) (a3:List Z7c) (a4:G29):Option (Str):=
 bif (a4.1==3)||(a4.1==4) then
  Ya (Zpb k a1.2 (Yb .i64 (3+a4.2.2.1))) fun v5=>
  Ya (Zhd k a3 a2.2.2.2.2.1 a4.2.2.1) fun v6=>
  bif decide (0≤v6) then
   Ya (Zvp k a1 a2 v6) fun v7=>
   Ya (Zmk k a4 v7) fun v8=>
   some v8
  else
  Ya (Zmk k a4 v5) fun v9=>
  some v9
 else
 Ya (Zmk k a4 []) fun v10=>
 some v10
def Zim.con (k:Nat):Con:=Sig.con { ps:=[.val true T27 (ros T27),.val true T59 (ros T59),.val false (.sl Z2b) (ros (.sl Z2b)),.val true T29 (ros T29)],rs:=[.val false [.v .str]],ntmps:=40 } (fun x=>Zim k x.1 x.2.1 x.2.2.1 x.2.2.2)
theorem Zim.ok (k:Nat):Zf Tryz.prog 111 (Zim.con k):=fA (cXr true false (cC (Zpb.ok k) (cC (Zhd.ok k) (cC (Zvp.ok k) (cC (Zmk.ok k) cN))))) Tryz.func111
def Z8k (k:Nat) (a1:Int) (a2:Int) (a3:Str):Option (Str):=
 Ya (Zib a1 0 1000000) fun v4=>
 bif !v4 then
  some ([])
 else
 Ya (Zib a2 0 39) fun v5=>
 bif (!v5)||(((a3.length):Int) != 8) then
  some ([])
 else
 Ya (Z5b k a1) fun v6=>
 Ya (Z5b k a2) fun v7=>
 Ya (Zmc v6 v7) fun v8=>
 Ya (Zji k a3) fun v9=>
 Ya (Zmc v8 v9) fun v10=>
 Ya (Zjk k v10) fun v11=>
 some v11
def Z8k.con (k:Nat):Con:=Sig.con { ps:=[.val false (.int .i64) (ros (.int .i64)),.val false (.int .i64) (ros (.int .i64)),.val false .str (ros .str)],rs:=[.val false [.v .str]],ntmps:=29 } (fun x=>Z8k k x.1 x.2.1 x.2.2)
theorem Z8k.ok (k:Nat):Zf Tryz.prog 113 (Z8k.con k):=fA (cX (cC (Zib.ok k) (cC (Zjk.ok k) (cC (Z5b.ok k) (cC (Zji.ok k) cN))))) Tryz.func113
def Z2f.j0 (k:Nat) (a1:Int) (a2:List Str) (a3:List Zjb) (a4:Int) (a5:Int) (a6:Int) (a7:Int) (a8:Int) (a9:Str) (a10:List Int) (a11:List Int) (a12:Int) (a13:Str) (a14:Int) (a15:Int) (a16:Int) (a17:Int) (a18:List Z7c):Option ((Int×Str×Int×Int×Int×Int)):=
 let e19:=(a1,(a2,a3))
 bif a14==1 then
  Ya (at? a11 a17) fun v20=>
  Ya (Zng e19 v20) fun v21=>
  some (v21,a13,a14,a15,a16,a17)
 else
 let e22:=(a4,(a5,(a6,(a7,(a8,(a9,(a10,a11)))))))
 Ya (Zgc k e19 e22) fun v23=>
 Ya (Z5c k v23) fun v24=>
 Ya (at? v24 a15) fun v25=>
 Ya (at? v24 a15) fun v26=>
 Ya (Zim k e19 e22 a18 v26) fun v27=>
 some (a12,v27,a14,a15,a16,a17)
def Z2f (k:Nat) (a1:G27) (a2:G59):Option (List G89×Str×List Int×Int):=
 bif a2.1 != 5 then
  Ya (Z7f 10) fun v3=>
  some (v3.1,v3.2.1,v3.2.2.1,v3.2.2.2)
 else
 Ya (Zbj k a1 a2) fun v4=>
 bif decide (((v4.length):Int)≤a2.2.2.2.2.1) then
  Ya (Zaj a2) fun v5=>
  Ya (Zwe k a1 v5) fun v6=>
  some (v6,[],[0],0)
 else
 let e7:=at? v4 a2.2.2.2.2.1
 Ya (e7) fun v8=>
 Ya (e7) fun v9=>
 let e10:=Yb .i64 (3+v9.2.2.1)
 Ya (Zpb k a1.2 e10) fun v11=>
 Ya (Z2f.j0 k a1.1 a1.2.1 a1.2.2 a2.1 a2.2.1 a2.2.2.1 a2.2.2.2.1 a2.2.2.2.2.1 a2.2.2.2.2.2.1 a2.2.2.2.2.2.2.1 a2.2.2.2.2.2.2.2 e10 v11 v9.1 v9.2.1 v9.2.2.1 v9.2.2.2 v4) fun y12=>
 Ya (Z9i a2) fun v13=>
 Ya (Z8k k a2.2.2.2.2.1 y12.1 y12.2.1) fun v14=>
 let e15:=Yb .i64 (a2.2.2.2.2.1+1)
 Ya (Zwe k a1 (v13.1,(v13.2.1,(v13.2.2.1,(v13.2.2.2.1,(e15,v13.2.2.2.2.2)))))) fun v16=>
 let e17:=(true,(0,[]))
 Ya (Zu 32 [(false,(2,v14)),e17,(false,(y12.1,y12.2.1)),e17] v16) fun v18=>
 some (v18,[],[(Yb .i64 (((v4.length):Int)-e15))],0)
def Z2f.con (k:Nat):Con:=Sig.con { ps:=[.val true T27 (ros T27),.val true T59 (ros T59)],rs:=[.val true [.own 89 T89,.v .str,.own 2 (.int .i64),.v (.int .i64)]],ntmps:=99 } (fun x=>Z2f k x.1 x.2)
def Z2f.cok (k:Nat):=cXr true false (cC (Z7f.ok k) (cC (Z9i.ok k) (cC (Zwe.ok k) (cC (Zaj.ok k) (cC (Zpb.ok k) (cC (Zng.ok k) (cC (Zgc.ok k) (cC (Zbj.ok k) (cC (Zim.ok k) (cC (Z5c.ok k) (cC (Z8k.ok k) cN)))))))))))
def Z2f.j0.s (k:Nat):Summ:=lq 99 { tmps:=[(2,.eptr [.v (.int .i64),.bor .str,.bor Z2]),(3,.eptr [.v (.int .i64),.v (.int .i64),.v (.int .i64),.v (.int .i64),.v (.int .i64),.v .str,.bor (.int .i64),.bor (.int .i64)]),(5,.one (.own 3)),(7,.one (.ptr 2 0)),(8,.one (.v (.int .i64))),(9,.one (.v .str))],slots:=[(2,.box 107 [.v (.int .i64),.v (.int .i64),.v (.int .i64),.v (.int .i64)]),(3,.arr false 107 Z2b)],nb:=4 } [(.nrm,{ tmps:=[(8,.one (.v (.int .i64))),(9,.one (.v .str))],slots:=[(2,.box 107 [.v (.int .i64),.v (.int .i64),.v (.int .i64),.v (.int .i64)])],nb:=4 })] (fun x=>Z2f.j0 k x.1 x.2.1 x.2.2.1 x.2.2.2.1 x.2.2.2.2.1 x.2.2.2.2.2.1 x.2.2.2.2.2.2.1 x.2.2.2.2.2.2.2.1 x.2.2.2.2.2.2.2.2.1 x.2.2.2.2.2.2.2.2.2.1 x.2.2.2.2.2.2.2.2.2.2.1 x.2.2.2.2.2.2.2.2.2.2.2.1 x.2.2.2.2.2.2.2.2.2.2.2.2.1 x.2.2.2.2.2.2.2.2.2.2.2.2.2.1 x.2.2.2.2.2.2.2.2.2.2.2.2.2.2.1 x.2.2.2.2.2.2.2.2.2.2.2.2.2.2.2.1 x.2.2.2.2.2.2.2.2.2.2.2.2.2.2.2.2.1 x.2.2.2.2.2.2.2.2.2.2.2.2.2.2.2.2.2)
def Z2f.j0.ok (k:Nat):=(jA (Z2f.cok k):Zj Tryz.prog _ (cL (cR (cR (cR (cR (cR (cR (cR (cR (cB Tryz.f48)))))))))) (Z2f.j0.s k))
theorem Z2f.ok (k:Nat):Zf Tryz.prog 48 (Z2f.con k):=fP (.two .auto (.two .auto (.two .auto (.two .auto (.two .auto (.two .auto (.two .auto (.two .auto (.two (.sum (Z2f.j0.s k)) .auto))))))))) (Z2f.cok k) Tryz.func48 (sC (Z2f.j0.ok k) sN)
def Zxe.l0 (k:Nat):Nat→Int→List Str→List Zjb→Int→Int→Int→Int→Int→Str→List Int→List Int→Int→List Z7c→List G29→List Str→Option ((List Str))
 | 0,_,_,_,_,_,_,_,_,_,_,_,_,_,_,_=>none
 | j+1,a1,a2,a3,a4,a5,a6,a7,a8,a9,a10,a11,a12,a13,a14,a15=>
  bif decide (a12<((a13.length):Int)) then
   Ya (at? a13 a12) fun v16=>
   Ya (at? a13 a12) fun v17=>
   let e18:=Yb .i64 (a12+1)
   bif (v17.1==2)&&(decide (a8≤a12)) then
    Ya (at? a13 a12) fun v19=>
    Ya (at? a13 a12) fun v20=>
    Ya (at? a13 a12) fun v21=>
    Ya (at? a13 a12) fun v22=>
    let e23:=at? a14 v22.2.1
    Ya (e23) fun v24=>
    Ya (e23) fun v25=>
    Ya (Zim k (a1,(a2,a3)) (a4,(a5,(a6,(a7,(a8,(a9,(a10,a11))))))) a13 v25) fun v26=>
    let e27:=at? a15 v20.2.2.1
    Ya (e27) fun v28=>
    Ya (e27) fun v29=>
    Zxe.l0 k j a1 a2 a3 a4 a5 a6 a7 a8 a9 a10 a11 e18 a13 a14 (Yd a15 (Yc v20.2.2.1) v26)
   else
   Zxe.l0 k j a1 a2 a3 a4 a5 a6 a7 a8 a9 a10 a11 e18 a13 a14 a15
  else
  some a15
def Zxe (k:Nat) (a1:G27) (a2:G59):Option (List Str):=
 Ya (Z2d k a1) fun v3=>
 Ya (Zgc k a1 a2) fun v4=>
 bif a2.1==4 then
  Ya (Zfm k v3 v4) fun v5=>
  some v5.1
 else
 bif a2.1 != 5 then
  some v3
 else
 Ya (Zbj k a1 a2) fun v6=>
 Ya (Z5c k v4) fun v7=>
 Ya (Zu 16 [] v3) fun v8=>
 Ya (Zxe.l0 k k a1.1 a1.2.1 a1.2.2 a2.1 a2.2.1 a2.2.2.1 a2.2.2.2.1 a2.2.2.2.2.1 a2.2.2.2.2.2.1 a2.2.2.2.2.2.2.1 a2.2.2.2.2.2.2.2 0 v6 v7 v8) fun y9=>
 some y9
def Zxe.con (k:Nat):Con:=Sig.con { ps:=[.val true T27 (ros T27),.val true T59 (ros T59)],rs:=[.val false [.own 9 .str]],ntmps:=73 } (fun x=>Zxe k x.1 x.2)
def Zxe.cok (k:Nat):=cXr true false (cC (Z2d.ok k) (cC (Zgc.ok k) (cC (Zfm.ok k) (cC (Zbj.ok k) (cC (Zim.ok k) (cC (Z5c.ok k) cN))))))
def Zxe.l0.s (k:Nat):Summ:=lp 73 { tmps:=[(2,.eptr [.v (.int .i64),.bor .str,.bor Z2]),(3,.eptr [.v (.int .i64),.v (.int .i64),.v (.int .i64),.v (.int .i64),.v (.int .i64),.v .str,.bor (.int .i64),.bor (.int .i64)]),(7,.one (.own 6)),(8,.one (.own 7)),(9,.one (.own 8)),(10,.one (.v (.int .i64)))],slots:=[(6,.arr false 107 Z2b),(7,.arr false 45 T29),(8,.arr false 9 .str)],nb:=9 } [(.exit 0,{ tmps:=[(9,.one (.own 9))],slots:=[(9,.arr false 9 .str)],nb:=10 })] (fun j x=>Zxe.l0 k j x.1 x.2.1 x.2.2.1 x.2.2.2.1 x.2.2.2.2.1 x.2.2.2.2.2.1 x.2.2.2.2.2.2.1 x.2.2.2.2.2.2.2.1 x.2.2.2.2.2.2.2.2.1 x.2.2.2.2.2.2.2.2.2.1 x.2.2.2.2.2.2.2.2.2.2.1 x.2.2.2.2.2.2.2.2.2.2.2.1 x.2.2.2.2.2.2.2.2.2.2.2.2.1 x.2.2.2.2.2.2.2.2.2.2.2.2.2.1 x.2.2.2.2.2.2.2.2.2.2.2.2.2.2) k
def Zxe.l0.ok (k:Nat):=(lA (Zxe.cok k):Zj Tryz.prog _ (.loop (cO (cO (cR (cL (cR (cR (cR (cR (cR (cR (cR (cR (cB Tryz.f49)))))))))))))) (Zxe.l0.s k))
theorem Zxe.ok (k:Nat):Zf Tryz.prog 49 (Zxe.con k):=fP (.two .auto (.two .auto (.two .auto (.two .auto (.two .auto (.two .auto (.two .auto (.two .auto (.two (.two .auto (.one (.sum (Zxe.l0.s k)))) .auto))))))))) (Zxe.cok k) Tryz.func49 (sC (Zxe.l0.ok k) sN)
def Zee.l0:Nat→List G29→Int→Int→Option (Int)
 | 0,_,_,_=>none
 | j+1,a1,a2,a3=>
  bif (decide (a3<((a1.length):Int)))&&(decide (((a1.length):Int)≤20)) then
   Ya (at? a1 a3) fun v4=>
   let e5:=Yb .i64 (a3+1)
   bif v4.1==5 then
    Zee.l0 j a1 e5 e5
   else
   Zee.l0 j a1 a2 e5
  else
  some a2
def Zee (k:Nat) (a1:List G29):Option (Int):=
 Ya (Zee.l0 k a1 0 0) fun y2=>
 some y2
def Zee.con (k:Nat):Con:=Sig.con { ps:=[.val false (.sl T29) (ros (.sl T29))],rs:=[.val false [.v (.int .i64)]],ntmps:=25 } (fun x=>Zee k x)
def Zee.cok (k:Nat):=cX cN
def Zee.l0.s (k:Nat):Summ:=lp 25 { tmps:=[(0,.one (.bor T29)),(3,.one (.v (.int .i64))),(4,.one (.v (.int .i64)))],slots:=[],nb:=0 } [(.exit 0,{ tmps:=[(3,.one (.v (.int .i64)))],slots:=[],nb:=0 })] (fun j x=>Zee.l0 j x.1 x.2.1 x.2.2) k
def Zee.l0.ok (k:Nat):=(lA (Zee.cok k):Zj Tryz.prog _ (.loop (cO (cO (cR (cL (cR (cR (cB Tryz.f114)))))))) (Zee.l0.s k))
theorem Zee.ok (k:Nat):Zf Tryz.prog 114 (Zee.con k):=fP (.two .auto (.two .auto (.two (.two .auto (.one (.sum (Zee.l0.s k)))) .auto))) (Zee.cok k) Tryz.func114 (sC (Zee.l0.ok k) sN)
def Zog.j0 (k:Nat) (a1:Int) (a2:List Str) (a3:List Zjb) (a4:Int) (a5:Int) (a6:Int) (a7:Int) (a8:Int) (a9:Str) (a10:List Int) (a11:List Int) (a12:Int):Option (Int):=
 bif a4==5 then
  Ya (Zbj k (a1,(a2,a3)) (a4,(a5,(a6,(a7,(a8,(a9,(a10,a11)))))))) fun v13=>
  some (Yb .i64 (((v13.length):Int)-a8))
 else
 some a12
def Zog (k:Nat) (a1:G27) (a2:G59):Option (List G89×Str×List Int×Int):=
 Ya (Zgc k a1 a2) fun v3=>
 Ya (Zog.j0 k a1.1 a1.2.1 a1.2.2 a2.1 a2.2.1 a2.2.2.1 a2.2.2.2.1 a2.2.2.2.2.1 a2.2.2.2.2.2.1 a2.2.2.2.2.2.2.1 a2.2.2.2.2.2.2.2 0) fun y4=>
 Ya (Zee k v3) fun v5=>
 Ya (Z1d k a2.2.2.2.2.2.2.1 a2.2.2.2.2.2.2.2) fun v6=>
 some ([],[],[a2.1,a2.2.1,((v3.length):Int),v5,y4,((v6.length):Int)],0)
def Zog.con (k:Nat):Con:=Sig.con { ps:=[.val true T27 (ros T27),.val true T59 (ros T59)],rs:=[.val true [.own 89 T89,.v .str,.own 2 (.int .i64),.v (.int .i64)]],ntmps:=37 } (fun x=>Zog k x.1 x.2)
def Zog.cok (k:Nat):=cXr true false (cC (Zgc.ok k) (cC (Zbj.ok k) (cC (Zee.ok k) (cC (Z1d.ok k) cN))))
def Zog.j0.s (k:Nat):Summ:=lq 37 { tmps:=[(2,.eptr [.v (.int .i64),.bor .str,.bor Z2]),(3,.eptr [.v (.int .i64),.v (.int .i64),.v (.int .i64),.v (.int .i64),.v (.int .i64),.v .str,.bor (.int .i64),.bor (.int .i64)]),(6,.one (.v (.int .i64)))],slots:=[],nb:=2 } [(.nrm,{ tmps:=[(6,.one (.v (.int .i64)))],slots:=[],nb:=2 })] (fun x=>Zog.j0 k x.1 x.2.1 x.2.2.1 x.2.2.2.1 x.2.2.2.2.1 x.2.2.2.2.2.1 x.2.2.2.2.2.2.1 x.2.2.2.2.2.2.2.1 x.2.2.2.2.2.2.2.2.1 x.2.2.2.2.2.2.2.2.2.1 x.2.2.2.2.2.2.2.2.2.2.1 x.2.2.2.2.2.2.2.2.2.2.2)
def Zog.j0.ok (k:Nat):=(jA (Zog.cok k):Zj Tryz.prog _ (cL (cR (cR (cR (cB Tryz.f50))))) (Zog.j0.s k))
theorem Zog.ok (k:Nat):Zf Tryz.prog 50 (Zog.con k):=fP (.two .auto (.two .auto (.two .auto (.two (.sum (Zog.j0.s k)) .auto)))) (Zog.cok k) Tryz.func50 (sC (Zog.j0.ok k) sN)
def Zcf.l0 (k:Nat):Nat→Int→List Str→List Zjb→Int→Int→Int→Int→Int→Str→List Int→List Int→Int→List G89→Option ((List G89))
 | 0,_,_,_,_,_,_,_,_,_,_,_,_,_=>none
 | j+1,a1,a2,a3,a4,a5,a6,a7,a8,a9,a10,a11,a12,a13=>
  bif decide (a12<((a11.length):Int)) then
   Ya (at? a11 a12) fun v14=>
   Ya (Zng (a1,(a2,a3)) v14) fun v15=>
   Ya (Zpb k (a2,a3) v15) fun v16=>
   let e17:=Yb .i64 (a12+1)
   bif !(v16==[]) then
    Ya (Zu 32 a13 ([(false,(v15,[]))])) fun v18=>
    Zcf.l0 k j a1 a2 a3 a4 a5 a6 a7 a8 a9 a10 a11 e17 v18
   else
   Zcf.l0 k j a1 a2 a3 a4 a5 a6 a7 a8 a9 a10 a11 e17 a13
  else
  some a13
def Zcf (k:Nat) (a1:G27) (a2:G59):Option (List G89):=
 Ya (Zgc k a1 a2) fun v3=>
 Ya (Zee k v3) fun v4=>
 Ya (Zcf.l0 k k a1.1 a1.2.1 a1.2.2 a2.1 a2.2.1 a2.2.2.1 a2.2.2.2.1 a2.2.2.2.2.1 a2.2.2.2.2.2.1 a2.2.2.2.2.2.2.1 a2.2.2.2.2.2.2.2 (Yb .i64 (a2.2.2.2.1+v4)) []) fun y5=>
 bif decide (0<((y5.length):Int)) then
  Ya (Zu 32 y5 ([(true,(0,[]))])) fun v6=>
  some v6
 else
 some y5
def Zcf.con (k:Nat):Con:=Sig.con { ps:=[.val true T27 (ros T27),.val true T59 (ros T59)],rs:=[.val false [.own 89 T89]],ntmps:=50 } (fun x=>Zcf k x.1 x.2)
def Zcf.cok (k:Nat):=cXr true false (cC (Zpb.ok k) (cC (Zng.ok k) (cC (Zgc.ok k) (cC (Zee.ok k) cN))))
def Zcf.l0.s (k:Nat):Summ:=lp 50 { tmps:=[(2,.eptr [.v (.int .i64),.bor .str,.bor Z2]),(3,.eptr [.v (.int .i64),.v (.int .i64),.v (.int .i64),.v (.int .i64),.v (.int .i64),.v .str,.bor (.int .i64),.bor (.int .i64)]),(5,.one (.own 2)),(7,.one (.v (.int .i64)))],slots:=[(2,.arr false 89 T89)],nb:=3 } [(.exit 0,{ tmps:=[(5,.one (.own 3))],slots:=[(3,.arr false 89 T89)],nb:=4 })] (fun j x=>Zcf.l0 k j x.1 x.2.1 x.2.2.1 x.2.2.2.1 x.2.2.2.2.1 x.2.2.2.2.2.1 x.2.2.2.2.2.2.1 x.2.2.2.2.2.2.2.1 x.2.2.2.2.2.2.2.2.1 x.2.2.2.2.2.2.2.2.2.1 x.2.2.2.2.2.2.2.2.2.2.1 x.2.2.2.2.2.2.2.2.2.2.2.1 x.2.2.2.2.2.2.2.2.2.2.2.2) k
def Zcf.l0.ok (k:Nat):=(lA (Zcf.cok k):Zj Tryz.prog _ (.loop (cO (cO (cR (cL (cR (cR (cR (cB Tryz.f120))))))))) (Zcf.l0.s k))
theorem Zcf.ok (k:Nat):Zf Tryz.prog 120 (Zcf.con k):=fP (.two .auto (.two .auto (.two .auto (.two (.two .auto (.one (.sum (Zcf.l0.s k)))) .auto)))) (Zcf.cok k) Tryz.func120 (sC (Zcf.l0.ok k) sN)
def Zem (k:Nat) (a1:Str) (a2:Int):Option (Bool×Int×Str):=
 Ya (Zkk k a1) fun v3=>
 Ya (Zbc k (v3.1,(0,false))) fun v4=>
 Ya (Zbc k v4.2) fun v5=>
 Ya (Zfh k v5.2) fun v6=>
 bif v6.2.2.2||(a1==[]) then
  some (true,0,[])
 else
 Ya (Z8k k v4.1 v5.1 v6.1) fun v7=>
 bif (!(v7==a1))||(v4.1 != a2) then
  some (true,0,[])
 else
 some (false,v5.1,v6.1)
def Zem.con (k:Nat):Con:=Sig.con { ps:=[.val false .str (ros .str),.val false (.int .i64) (ros (.int .i64))],rs:=[.val true [.v .bool,.v (.int .i64),.v .str]],ntmps:=46 } (fun x=>Zem k x.1 x.2)
theorem Zem.ok (k:Nat):Zf Tryz.prog 121 (Zem.con k):=fA (cX (cC (Zbc.ok k) (cC (Zfh.ok k) (cC (Z8k.ok k) (cC (Zkk.ok k) cN))))) Tryz.func121
def Zxj (k:Nat) (a1:G27) (a2:G59):Option (List G89):=
 Ya (Z9i a2) fun v3=>
 bif a2.1==2 then
  Ya (Zcf k a1 a2) fun v4=>
  some v4
 else
 bif a2.1==3 then
  Ya (Zwe k a1 (4,(2,v3.2.2))) fun v5=>
  some v5
 else
 bif a2.1==4 then
  bif a2.2.1==0 then
   Ya (Zaj a2) fun v6=>
   Ya (Zwe k a1 v6) fun v7=>
   some v7
  else
  Ya (Zwe k a1 (v3.1,((Yb .i64 (a2.2.1-1)),v3.2.2))) fun v8=>
  some v8
 else
 bif a2.1==5 then
  Ya (Zpb k a1.2 2) fun v9=>
  Ya (Zem k v9 a2.2.2.2.2.1) fun v10=>
  bif (v10.1||(decide (40≤a2.2.2.2.2.1)))||(decide (((a1.2.1.length):Int)≤v10.2.1)) then
   some ([])
  else
  Ya (Zwe k a1 (v3.1,(v3.2.1,(v3.2.2.1,(v3.2.2.2.1,((Yb .i64 (a2.2.2.2.2.1+1)),v3.2.2.2.2.2)))))) fun v11=>
  Ya (Zu 32 ([v10,(true,(0,[]))]) v11) fun v12=>
  some v12
 else
 some ([])
def Zxj.con (k:Nat):Con:=Sig.con { ps:=[.val true T27 (ros T27),.val true T59 (ros T59)],rs:=[.val false [.own 89 T89]],ntmps:=76 } (fun x=>Zxj k x.1 x.2)
theorem Zxj.ok (k:Nat):Zf Tryz.prog 54 (Zxj.con k):=fA (cXr true false (cC (Z9i.ok k) (cC (Zwe.ok k) (cC (Zaj.ok k) (cC (Zpb.ok k) (cC (Zcf.ok k) (cC (Zem.ok k) cN))))))) Tryz.func54
def Z2g (k:Nat) (a1:G27) (a2:G59) (a3:G31):Option (List G89×Str×List Int×Int):=
 Ya (Z9i a2) fun v4=>
 bif a3.1==1 then
  Ya (Zve k a1 a2 a3) fun v5=>
  some (v5.1,v5.2.1,v5.2.2.1,v5.2.2.2)
 else
 bif a3.1==2 then
  Ya (Zxp k a1 a2 a3) fun v6=>
  some (v6.1,v6.2.1,v6.2.2.1,v6.2.2.2)
 else
 bif a3.1==3 then
  Ya (Zwp k a1 a2) fun v7=>
  some (v7.1,v7.2.1,v7.2.2.1,v7.2.2.2)
 else
 bif a3.1==4 then
  bif (a2.1==1)||(a2.1==5) then
   Ya (Z7f 10) fun v8=>
   some (v8.1,v8.2.1,v8.2.2.1,v8.2.2.2)
  else
  Ya (Zaj a2) fun v9=>
  Ya (Zwe k a1 v9) fun v10=>
  some (v10,[],[],0)
 else
 bif a3.1==5 then
  bif a2.1 != 4 then
   Ya (Z7f 10) fun v11=>
   some (v11.1,v11.2.1,v11.2.2.1,v11.2.2.2)
  else
  Ya (Zwe k a1 (5,(0,v4.2.2))) fun v12=>
  Ya (Zu 32 ([(false,(2,[])),(true,(0,[]))]) v12) fun v13=>
  some (v13,[],[],0)
 else
 bif a3.1==6 then
  Ya (Z2f k a1 a2) fun v14=>
  some (v14.1,v14.2.1,v14.2.2.1,v14.2.2.2)
 else
 bif a3.1==7 then
  bif decide (a1.1≤a3.2.1) then
   Ya (Z7f 8) fun v15=>
   some (v15.1,v15.2.1,v15.2.2.1,v15.2.2.2)
  else
  Ya (Zxe k a1 a2) fun v16=>
  let e17:=at? v16 a3.2.1
  Ya (e17) fun v18=>
  Ya (e17) fun v19=>
  some ([],v19,[],0)
 else
 bif a3.1==8 then
  Ya (Zog k a1 a2) fun v20=>
  some (v20.1,v20.2.1,v20.2.2.1,v20.2.2.2)
 else
 bif a3.1==9 then
  Ya (Z0c k a2.2.2.2.2.2.2.1 a2.2.2.2.2.2.2.2 a3.2.1) fun v21=>
  bif v21.2 != 0 then
   Ya (Z7f v21.2) fun v22=>
   some (v22.1,v22.2.1,v22.2.2.1,v22.2.2.2)
  else
  Ya (Zod k a2.2.2.2.2.2.2.1) fun v23=>
  Ya (Zod k v21.1) fun v24=>
  Ya (Zad k (Yb .i64 (v23+v24))) fun v25=>
  Ya (Zwe k a1 (v4.1,(v4.2.1,(v4.2.2.1,(v4.2.2.2.1,(v4.2.2.2.2.1,(v4.2.2.2.2.2.1,(v25,v4.2.2.2.2.2.2.2)))))))) fun v26=>
  some (v26,[],[],0)
 else
 bif a3.1==10 then
  Ya (Zwe k a1 (v4.1,(v4.2.1,(v4.2.2.1,(v4.2.2.2.1,(v4.2.2.2.2.1,(v4.2.2.2.2.2.1,([],v4.2.2.2.2.2.2.2)))))))) fun v27=>
  some (v27,[],[],0)
 else
 Ya (Zxj k a1 a2) fun v28=>
 some (v28,[],[],0)
def Z2g.con (k:Nat):Con:=Sig.con { ps:=[.val true T27 (ros T27),.val true T59 (ros T59),.val true T31 (ros T31)],rs:=[.val true [.own 89 T89,.v .str,.own 2 (.int .i64),.v (.int .i64)]],ntmps:=127 } (fun x=>Z2g k x.1 x.2.1 x.2.2)
theorem Z2g.ok (k:Nat):Zf Tryz.prog 20 (Z2g.con k):=fA (cXr true false (cC (Z7f.ok k) (cC (Z9i.ok k) (cC (Zve.ok k) (cC (Zxp.ok k) (cC (Zwp.ok k) (cC (Zwe.ok k) (cC (Zaj.ok k) (cC (Z2f.ok k) (cC (Zxe.ok k) (cC (Zog.ok k) (cC (Z0c.ok k) (cC (Zad.ok k) (cC (Zod.ok k) (cC (Zxj.ok k) cN))))))))))))))) Tryz.func20
def Zdm (k:Nat) (a1:G27) (a2:G31):Option (List G89×Str×List Int×Int):=
 Ya (Zhm k a1 a2) fun v3=>
 bif v3 != 0 then
  Ya (Z7f v3) fun v4=>
  some (v4.1,v4.2.1,v4.2.2.1,v4.2.2.2)
 else
 Ya (Zki k a1) fun v5=>
 Ya (Z2g k a1 (v5.1,(v5.2.1,(v5.2.2.1,(v5.2.2.2.1,(v5.2.2.2.2.1,(v5.2.2.2.2.2.1,(v5.2.2.2.2.2.2.1,v5.2.2.2.2.2.2.2.1))))))) a2) fun v6=>
 some (v6.1,v6.2.1,v6.2.2.1,v6.2.2.2)
def Zdm.con (k:Nat):Con:=Sig.con { ps:=[.val true T27 (ros T27),.val true T31 (ros T31)],rs:=[.val true [.own 89 T89,.v .str,.own 2 (.int .i64),.v (.int .i64)]],ntmps:=24 } (fun x=>Zdm k x.1 x.2)
theorem Zdm.ok (k:Nat):Zf Tryz.prog 6 (Zdm.con k):=fA (cXr true false (cC (Zhm.ok k) (cC (Z7f.ok k) (cC (Zki.ok k) (cC (Z2g.ok k) cN))))) Tryz.func6
def Z7e.l0:Nat→List Str→Int→List Str→Option ((List Str))
 | 0,_,_,_=>none
 | j+1,a1,a2,a3=>
  bif decide (a2<((a1.length):Int)) then
   Ya (at? a1 a2) fun v4=>
   Ya (at? a3 a2) fun v5=>
   Ya (at? a3 a2) fun v6=>
   Z7e.l0 j a1 (Yb .i64 (a2+1)) (Yd a3 (Yc a2) v4)
  else
  some a3
def Z7e (k:Nat) (a1:List Str):Option (List Str):=
 Ya (Zlg 16 ((a1.length):Int) ((a1.length):Int) []) fun v2=>
 Ya (Z7e.l0 k a1 0 v2) fun y3=>
 some y3
def Z7e.con (k:Nat):Con:=Sig.con { ps:=[.val false (.sl .str) (ros (.sl .str))],rs:=[.val false [.own 9 .str]],ntmps:=22 } (fun x=>Z7e k x)
def Z7e.cok (k:Nat):=cX cN
def Z7e.l0.s (k:Nat):Summ:=lp 22 { tmps:=[(0,.one (.bor .str)),(3,.one (.own 1)),(4,.one (.v (.int .i64)))],slots:=[(1,.arr false 9 .str)],nb:=2 } [(.exit 0,{ tmps:=[(3,.one (.own 2))],slots:=[(2,.arr false 9 .str)],nb:=3 })] (fun j x=>Z7e.l0 j x.1 x.2.1 x.2.2) k
def Z7e.l0.ok (k:Nat):=(lA (Z7e.cok k):Zj Tryz.prog _ (.loop (cO (cO (cR (cL (cR (cR (cB Tryz.f55)))))))) (Z7e.l0.s k))
theorem Z7e.ok (k:Nat):Zf Tryz.prog 55 (Z7e.con k):=fP (.two .auto (.two .auto (.two (.two .auto (.one (.sum (Z7e.l0.s k)))) .auto))) (Z7e.cok k) Tryz.func55 (sC (Z7e.l0.ok k) sN)
def Zis (a1:Zjb):Option (Int×Str):=
 some (a1.1,a1.2)
def Zis.con (k:Nat):Con:=Sig.con { ps:=[.val true Z2 (ros Z2)],rs:=[.val true [.v (.int .i64),.v .str]],ntmps:=11 } (fun x=>Zis x)
theorem Zis.ok (k:Nat):Zf Tryz.prog 122 (Zis.con k):=fA (cX cN) Tryz.func122
def Z6e.l0:Nat→List Zjb→Int→List Zjb→Option ((List Zjb))
 | 0,_,_,_=>none
 | j+1,a1,a2,a3=>
  bif decide (a2<((a1.length):Int)) then
   Ya (at? a1 a2) fun v4=>
   Ya (Zis v4) fun v5=>
   Ya (at? a3 a2) fun v6=>
   Ya (at? a3 a2) fun v7=>
   Z6e.l0 j a1 (Yb .i64 (a2+1)) (Yd a3 (Yc a2) v5)
  else
  some a3
def Z6e (k:Nat) (a1:List Zjb):Option (List Zjb):=
 Ya (Zlg 24 ((a1.length):Int) ((a1.length):Int) (0,[])) fun v2=>
 Ya (Z6e.l0 k a1 0 v2) fun y3=>
 some y3
def Z6e.con (k:Nat):Con:=Sig.con { ps:=[.val false (.sl Z2) (ros (.sl Z2))],rs:=[.val false [.own 130 Z2]],ntmps:=23 } (fun x=>Z6e k x)
def Z6e.cok (k:Nat):=cX (cC (Zis.ok k) cN)
def Z6e.l0.s (k:Nat):Summ:=lp 23 { tmps:=[(0,.one (.bor Z2)),(3,.one (.own 1)),(4,.one (.v (.int .i64)))],slots:=[(1,.arr false 130 Z2)],nb:=2 } [(.exit 0,{ tmps:=[(3,.one (.own 2))],slots:=[(2,.arr false 130 Z2)],nb:=3 })] (fun j x=>Z6e.l0 j x.1 x.2.1 x.2.2) k
def Z6e.l0.ok (k:Nat):=(lA (Z6e.cok k):Zj Tryz.prog _ (.loop (cO (cO (cR (cL (cR (cR (cB Tryz.f56)))))))) (Z6e.l0.s k))
theorem Z6e.ok (k:Nat):Zf Tryz.prog 56 (Z6e.con k):=fP (.two .auto (.two .auto (.two (.two .auto (.one (.sum (Z6e.l0.s k)))) .auto))) (Z6e.cok k) Tryz.func56 (sC (Z6e.l0.ok k) sN)
def Z6o (k:Nat) (a1:G25):Option (List Str×List Zjb):=
 Ya (Z7e k a1.1) fun v2=>
 Ya (Z6e k a1.2) fun v3=>
 some (v2,v3)
def Z6o.con (k:Nat):Con:=Sig.con { ps:=[.val true T25 (ros T25)],rs:=[.val true [.own 9 .str,.own 130 Z2]],ntmps:=13 } (fun x=>Z6o k x)
theorem Z6o.ok (k:Nat):Zf Tryz.prog 21 (Z6o.con k):=fA (cXr true false (cC (Z7e.ok k) (cC (Z6e.ok k) cN))) Tryz.func21
def Zyk (k:Nat) (a1:G27):Option (Int×List Str×List Zjb):=
 Ya (Z6o k a1.2) fun v2=>
 some (a1.1,v2.1,v2.2)
def Zyk.con (k:Nat):Con:=Sig.con { ps:=[.val true T27 (ros T27)],rs:=[.val true [.v (.int .i64),.own 9 .str,.own 130 Z2]],ntmps:=12 } (fun x=>Zyk k x)
theorem Zyk.ok (k:Nat):Zf Tryz.prog 7 (Zyk.con k):=fA (cXr true false (cC (Z6o.ok k) cN)) Tryz.func7
def Zjs (a1:G29):Option (Int×Int×Int×Str):=
 some (a1.1,a1.2.1,a1.2.2.1,a1.2.2.2)
def Zjs.con (k:Nat):Con:=Sig.con { ps:=[.val true T29 (ros T29)],rs:=[.val true [.v (.int .i64),.v (.int .i64),.v (.int .i64),.v .str]],ntmps:=17 } (fun x=>Zjs x)
theorem Zjs.ok (k:Nat):Zf Tryz.prog 22 (Zjs.con k):=fA (cX cN) Tryz.func22
def Z7m (a1:G31):Option (Int×Int×Int×Str×Int×Int×Int×Str):=
 Ya (Zjs a1.2.2.2.2) fun v2=>
 some (a1.1,a1.2.1,a1.2.2.1,a1.2.2.2.1,v2.1,v2.2.1,v2.2.2.1,v2.2.2.2)
def Z7m.con (k:Nat):Con:=Sig.con { ps:=[.val true T31 (ros T31)],rs:=[.val true [.v (.int .i64),.v (.int .i64),.v (.int .i64),.v .str,.v (.int .i64),.v (.int .i64),.v (.int .i64),.v .str]],ntmps:=21 } (fun x=>Z7m x)
theorem Z7m.ok (k:Nat):Zf Tryz.prog 8 (Z7m.con k):=fA (cX (cC (Zjs.ok k) cN)) Tryz.func8
def Zrq (a1:Zjb) (a2:Int):Option (Bool):=
 some (a1.1==a2)
def Zrq.con (k:Nat):Con:=Sig.con { ps:=[.val true Z2 (ros Z2),.rptr (.int .i64)],rs:=[.val false [.v .bool]],ntmps:=8 } (fun x=>Zrq x.1 x.2)
theorem Zrq.ok (k:Nat):Zf Tryz.prog 214 (Zrq.con k):=fA (cX cN) Tryz.func214
def Ztd.l0:Nat→List Zjb→Int→Int→Int→Option (Int ⊕ (Int×Int))
 | 0,_,_,_,_=>none
 | j+1,a1,a2,a3,a4=>
  bif decide (a3<a2) then
   Ya (at? a1 a3) fun v5=>
   Ya (Zrq v5 a4) fun v6=>
   bif v6 then
    some (.inr (a3,a4))
   else
   Ztd.l0 j a1 a2 (Yb .i64 (a3+1)) a4
  else
  some (.inl a4)
def Ztd (k:Nat) (a1:List Zjb) (a2:Int):Option (Int×Int):=
 Ya (Ztd.l0 k a1 ((a1.length):Int) 0 a2) fun
  | .inl y3=>
   some ((-1),y3)
  | .inr y4=>
   some (y4.1,y4.2)
def Ztd.con (k:Nat):Con:=Sig.con { ps:=[.val false (.sl Z2) (ros (.sl Z2)),.fn 214 [(2,(.int .i64),(Zwg (.int .i64)))]],rs:=[.val false [.v (.int .i64)]],ntmps:=19 } (fun x=>Ztd k x.1 x.2)
def Ztd.cok (k:Nat):=cX (cC (Zrq.ok k) cN)
def Ztd.l0.s (k:Nat):Summ:=lp 19 { tmps:=[(0,.one (.bor Z2)),(1,.fn 214 [.ptr 0 0]),(7,.one (.v (.int .i64))),(8,.one (.v (.int .i64)))],slots:=[(0,.box 2 [.v (.int .i64)])],nb:=1 } [(.exit 0,{ tmps:=[],slots:=[(0,.box 2 [.v (.int .i64)])],nb:=1 }),(.ret,{ tmps:=[(4,.one (.v (.int .i64)))],slots:=[(0,.box 2 [.v (.int .i64)])],nb:=1 })] (fun j x=>Ztd.l0 j x.1 x.2.1 x.2.2.1 x.2.2.2) k
def Ztd.l0.ok (k:Nat):=(lA (Ztd.cok k):Zj Tryz.prog _ (.loop (cO (cO (cR (cL (cR (cB Tryz.f213))))))) (Ztd.l0.s k))
theorem Ztd.ok (k:Nat):Zf Tryz.prog 213 (Ztd.con k):=fP (.two .auto (.two (.two .auto (.one (.sum (Ztd.l0.s k)))) .auto)) (Ztd.cok k) Tryz.func213 (sC (Ztd.l0.ok k) sN)
def Zvl (k:Nat) (a1:G25) (a2:Int):Option (Int):=
 Ya (Ztd k a1.2 a2) fun v3=>
 some v3.1
def Zvl.con (k:Nat):Con:=Sig.con { ps:=[.val true T25 (ros T25),.val false (.int .i64) (ros (.int .i64))],rs:=[.val false [.v (.int .i64)]],ntmps:=9 } (fun x=>Zvl k x.1 x.2)
theorem Zvl.ok (k:Nat):Zf Tryz.prog 179 (Zvl.con k):=fA (cXr true false (cC (Ztd.ok k) cN)) Tryz.func179
def Zyf (k:Nat) (a1:G25) (a2:Int):Option (Str):=
 Ya (Zvl k a1 a2) fun v3=>
 bif decide (0≤v3) then
  Ya (at? a1.2 v3) fun v4=>
  some v4.2
 else
 Ya (at? a1.1 a2) fun v5=>
 some v5
def Zyf.con (k:Nat):Con:=Sig.con { ps:=[.val true T25 (ros T25),.val false (.int .i64) (ros (.int .i64))],rs:=[.val false [.v .str]],ntmps:=22 } (fun x=>Zyf k x.1 x.2)
theorem Zyf.ok (k:Nat):Zf Tryz.prog 129 (Zyf.con k):=fA (cXr true false (cC (Zvl.ok k) cN)) Tryz.func129
def Zeb (a1:Int) (a2:Int) (a3:Int):Option (Bool):=
 some ((decide (a2≤a1))&&(decide (a1≤a3)))
def Zeb.con (k:Nat):Con:=Sig.con { ps:=[.val false (.int .i64) (ros (.int .i64)),.val false (.int .i64) (ros (.int .i64)),.val false (.int .i64) (ros (.int .i64))],rs:=[.val false [.v .bool]],ntmps:=15 } (fun x=>Zeb x.1 x.2.1 x.2.2)
theorem Zeb.ok (k:Nat):Zf Tryz.prog 65 (Zeb.con k):=fA (cX cN) Tryz.func65
def Z0e.l0:Nat→Str→Int→Int→Int→Option ((Int×Int×Int))
 | 0,_,_,_,_=>none
 | j+1,a1,a2,a3,a4=>
  bif decide ((Yb .i64 (((a1.length):Int)-a4))≤a2) then
   some (0,0,4)
  else
  let e5:=Yb .i64 (a2+a4)
  Ya (at? a1 e5) fun v6=>
  bif (a4==9)&&(decide (1<(v6.toNat:Int))) then
   some (0,0,3)
  else
  let e7:=Yb .i64 (7*a4)
  Ya (Zsb e7) fun v8=>
  let e9:=intBits .or .u64 a3 (shl .u64 (Yb .u64 (intBits .and .u8 (v6.toNat:Int) 127)) e7)
  bif decide (127<(v6.toNat:Int)) then
   Z0e.l0 j a1 a2 e9 (Yb .i64 (a4+1))
  else
  bif ((v6.toNat:Int)==0)&&(decide (0<a4)) then
   some (0,0,3)
  else
  Ya (Zsb 1) fun v10=>
  let e11:=Yb .i64 (e5+1)
  let e12:=Yb .i64 (shr .u64 e9 1)
  bif (intBits .and .u64 e9 1)==1 then
   some (intBits .xor .i64 (-1) e12,e11,0)
  else
  some (e12,e11,0)
def Z0e (k:Nat) (a1:Str) (a2:Int):Option (Int×Int×Int):=
 bif decide (a2<0) then
  some (0,0,1)
 else
 Ya (Z0e.l0 k a1 a2 0 0) fun y3=>
 some (y3.1,y3.2.1,y3.2.2)
def Z0e.con (k:Nat):Con:=Sig.con { ps:=[.val false .str (ros .str),.val false (.int .i64) (ros (.int .i64))],rs:=[.val false [.v (.int .i64)],.val false [.v (.int .i64)],.val false [.v (.int .i64)]],ntmps:=61 } (fun x=>Z0e k x.1 x.2)
def Z0e.cok (k:Nat):=cX cN
def Z0e.l0.s (k:Nat):Summ:=lp 61 { tmps:=[(0,.one (.v .str)),(1,.one (.v (.int .i64))),(7,.one (.v (.int .u64))),(8,.one (.v (.int .i64)))],slots:=[],nb:=0 } [(.ret,{ tmps:=[(4,.one (.v (.int .i64))),(5,.one (.v (.int .i64))),(6,.one (.v (.int .i64)))],slots:=[],nb:=0 })] (fun j x=>Z0e.l0 j x.1 x.2.1 x.2.2.1 x.2.2.2) k
def Z0e.l0.ok (k:Nat):=(lA (Z0e.cok k):Zj Tryz.prog _ (.loop (cO (cO (cR (cR (cR (cR (cB Tryz.f215)))))))) (Z0e.l0.s k))
theorem Z0e.ok (k:Nat):Zf Tryz.prog 215 (Z0e.con k):=fP (.two .auto (.two .auto (.two .auto (.two .auto (.one (.sum (Z0e.l0.s k))))))) (Z0e.cok k) Tryz.func215 (sC (Z0e.l0.ok k) sN)
def Zec (k:Nat) (a1:Zot):Option (Int×Str×Int×Bool):=
 Ya (Z0e k a1.1 a1.2.1) fun v2=>
 bif v2.2.2 != 0 then
  some (0,a1.1,a1.2.1,true)
 else
 some (v2.1,a1.1,v2.2.1,a1.2.2)
def Zec.con (k:Nat):Con:=Sig.con { ps:=[.ref 203 Z3j (Zwg Z3j)],rs:=[.val false [.v (.int .i64)]],ntmps:=29 } (fun x=>Zec k x)
theorem Zec.ok (k:Nat):Zf Tryz.prog 180 (Zec.con k):=fA (cX (cC (Z0e.ok k) cN)) Tryz.func180
def Zeo (k:Nat) (a1:Str) (a2:Int):Option (Str×Int×Int):=
 Ya (Z0e k a1 a2) fun v3=>
 bif v3.2.2 != 0 then
  some ([],0,v3.2.2)
 else
 Ya (Zeb v3.1 0 8000) fun v4=>
 bif !v4 then
  some ([],0,3)
 else
 bif decide ((Yb .i64 (((a1.length):Int)-v3.2.1))<v3.1) then
  some ([],0,4)
 else
 let e5:=Yb .i64 (v3.2.1+v3.1)
 Ya (Z8b a1 v3.2.1 e5) fun v6=>
 some (v6,e5,0)
def Zeo.con (k:Nat):Con:=Sig.con { ps:=[.val false .str (ros .str),.val false (.int .i64) (ros (.int .i64))],rs:=[.val false [.v .str],.val false [.v (.int .i64)],.val false [.v (.int .i64)]],ntmps:=41 } (fun x=>Zeo k x.1 x.2)
theorem Zeo.ok (k:Nat):Zf Tryz.prog 216 (Zeo.con k):=fA (cX (cC (Zeb.ok k) (cC (Z0e.ok k) cN))) Tryz.func216
def Zig (k:Nat) (a1:Zot):Option (Str×Str×Int×Bool):=
 Ya (Zeo k a1.1 a1.2.1) fun v2=>
 bif v2.2.2 != 0 then
  some ([],a1.1,a1.2.1,true)
 else
 some (v2.1,a1.1,v2.2.1,a1.2.2)
def Zig.con (k:Nat):Con:=Sig.con { ps:=[.ref 203 Z3j (Zwg Z3j)],rs:=[.val false [.v .str]],ntmps:=29 } (fun x=>Zig k x)
theorem Zig.ok (k:Nat):Zf Tryz.prog 181 (Zig.con k):=fA (cX (cC (Zeo.ok k) cN)) Tryz.func181
def Zcc.l0:Nat→Str→Int→Int→Int→Option (Int)
 | 0,_,_,_,_=>none
 | j+1,a1,a2,a3,a4=>
  bif decide (a4<8) then
   Ya (at? a1 a3) fun v5=>
   Ya (Zsb a4) fun v6=>
   Ya (Zsb 1) fun v7=>
   let e8:=Yb .i64 (a4+1)
   bif (intBits .and .u32 (intBits .xor .u32 a2 (shr .u32 (Yb .u32 (v5.toNat:Int)) a4)) 1)==1 then
    Zcc.l0 j a1 (intBits .xor .u32 (shr .u32 a2 1) 3988292384) a3 e8
   else
   Zcc.l0 j a1 (shr .u32 a2 1) a3 e8
  else
  some a2
def Zcc.l1 (k:Nat):Nat→Str→Int→Int→Int→Option (Int)
 | 0,_,_,_,_=>none
 | j+1,a1,a2,a3,a4=>
  bif decide (a4<a3) then
   Ya (Zcc.l0 k a1 a2 a4 0) fun y5=>
   Zcc.l1 k j a1 y5 a3 (Yb .i64 (a4+1))
  else
  some a2
def Zcc (k:Nat) (a1:Int) (a2:Str):Option (Int):=
 Ya (Zcc.l1 k k a2 (intBits .xor .u32 (Ye .u32) a1) ((a2.length):Int) 0) fun y3=>
 some (intBits .xor .u32 (Ye .u32) y3)
def Zcc.con (k:Nat):Con:=Sig.con { ps:=[.val false (.int .u32) (ros (.int .u32)),.val false .str (ros .str)],rs:=[.val false [.v (.int .u32)]],ntmps:=38 } (fun x=>Zcc k x.1 x.2)
def Zcc.cok (k:Nat):=cX cN
def Zcc.l0.s (k:Nat):Summ:=lp 38 { tmps:=[(1,.one (.v .str)),(5,.one (.v (.int .u32))),(6,.one (.v (.int .i64))),(16,.one (.v (.int .i64)))],slots:=[],nb:=0 } [(.exit 2,{ tmps:=[(5,.one (.v (.int .u32)))],slots:=[],nb:=0 })] (fun j x=>Zcc.l0 j x.1 x.2.1 x.2.2.1 x.2.2.2) k
def Zcc.l0.ok (k:Nat):=(lA (Zcc.cok k):Zj Tryz.prog _ (.loop (cO (cO (cR (cR (cO (cL (cR (cR (cO (cO (cR (cL (cR (cR (cB Tryz.f219)))))))))))))))) (Zcc.l0.s k))
def Zcc.l1.s (k:Nat):Summ:=lp 38 { tmps:=[(1,.one (.v .str)),(5,.one (.v (.int .u32))),(12,.one (.v (.int .i64))),(13,.one (.v (.int .i64)))],slots:=[],nb:=0 } [(.exit 0,{ tmps:=[(5,.one (.v (.int .u32)))],slots:=[],nb:=0 })] (fun j x=>Zcc.l1 k j x.1 x.2.1 x.2.2.1 x.2.2.2) k
def Zcc.l1.ok (k:Nat):=(lP (.two .auto (.two .auto (.two (.one (.two .auto (.two .auto (.one (.sum (Zcc.l0.s k)))))) .auto))) (Zcc.cok k) (sC (Zcc.l0.ok k) sN):Zj Tryz.prog _ (.loop (cO (cO (cR (cL (cR (cR (cB Tryz.f219)))))))) (Zcc.l1.s k))
theorem Zcc.ok (k:Nat):Zf Tryz.prog 219 (Zcc.con k):=fP (.two .auto (.two .auto (.two (.two .auto (.one (.sum (Zcc.l1.s k)))) .auto))) (Zcc.cok k) Tryz.func219 (sC (Zcc.l1.ok k) sN)
def Zwi (k:Nat) (a1:Str):Option (Str):=
 Ya (Zcc k 0 a1) fun v2=>
 Ya (Zsb 8) fun v3=>
 Ya (Zsb 16) fun v4=>
 Ya (Zsb 24) fun v5=>
 Ya (Zmc a1 (Zlb [(Yb .u8 v2),(Yb .u8 (shr .u32 v2 8)),(Yb .u8 (shr .u32 v2 16)),(Yb .u8 (shr .u32 v2 24))])) fun v6=>
 some v6
def Zwi.con (k:Nat):Con:=Sig.con { ps:=[.val false .str (ros .str)],rs:=[.val false [.v .str]],ntmps:=21 } (fun x=>Zwi k x)
theorem Zwi.ok (k:Nat):Zf Tryz.prog 191 (Zwi.con k):=fA (cX (cC (Zcc.ok k) cN)) Tryz.func191
def Zak (k:Nat) (a1:Str):Option (Str×Int):=
 bif decide (((a1.length):Int)<4) then
  some ([],4)
 else
 Ya (Z8b a1 0 (Yb .i64 (((a1.length):Int)-4))) fun v2=>
 Ya (Zwi k v2) fun v3=>
 bif !(v3==a1) then
  some ([],5)
 else
 some (v2,0)
def Zak.con (k:Nat):Con:=Sig.con { ps:=[.val false .str (ros .str)],rs:=[.val false [.v .str],.val false [.v (.int .i64)]],ntmps:=18 } (fun x=>Zak k x)
theorem Zak.ok (k:Nat):Zf Tryz.prog 190 (Zak.con k):=fA (cX (cC (Zwi.ok k) cN)) Tryz.func190
def Zyl (k:Nat) (a1:Str):Option (Int×Str×Int):=
 Ya (Zak k a1) fun v2=>
 bif v2.2 != 0 then
  some (0,[],v2.2)
 else
 Ya (Zec k (v2.1,(0,false))) fun v3=>
 Ya (Zig k v3.2) fun v4=>
 bif v4.2.2.2||(v4.2.2.1 != ((v2.1.length):Int)) then
  some (0,[],3)
 else
 Ya (Zeb v3.1 1 1000000) fun v5=>
 bif (!v5)||(decide (80<((v4.1.length):Int))) then
  some (0,[],3)
 else
 some (v3.1,v4.1,0)
def Zyl.con (k:Nat):Con:=Sig.con { ps:=[.val false .str (ros .str)],rs:=[.val true [.v (.int .i64),.v .str,.v (.int .i64)]],ntmps:=51 } (fun x=>Zyl k x)
theorem Zyl.ok (k:Nat):Zf Tryz.prog 142 (Zyl.con k):=fA (cX (cC (Zeb.ok k) (cC (Zec.ok k) (cC (Zig.ok k) (cC (Zak.ok k) cN))))) Tryz.func142
def Zxc.l0 (k:Nat):Nat→List Str→List Zjb→Int→Int→Int→Str→Int→Option ((Int×Int×Str×Int))
 | 0,_,_,_,_,_,_,_=>none
 | j+1,a1,a2,a3,a4,a5,a6,a7=>
  bif decide (a4<2) then
   Ya (Zyf k (a1,a2) a4) fun v8=>
   Ya (Zyl k v8) fun v9=>
   let e10:=Yb .i64 (a4+1)
   bif (v9.2.2==0)&&((decide (a3<0))||(decide (a5<v9.1))) then
    Zxc.l0 k j a1 a2 a4 e10 v9.1 v9.2.1 v9.2.2
   else
   Zxc.l0 k j a1 a2 a3 e10 a5 a6 a7
  else
  some (a3,a5,a6,a7)
def Zxc (k:Nat) (a1:G25):Option (Int×Str×Int×Int):=
 Ya (Zxc.l0 k k a1.1 a1.2 (-1) 0 0 [] 6) fun y2=>
 some (y2.2.1,y2.2.2.1,y2.2.2.2,y2.1)
def Zxc.con (k:Nat):Con:=Sig.con { ps:=[.val true T25 (ros T25)],rs:=[.val true [.v (.int .i64),.v .str,.v (.int .i64)],.val false [.v (.int .i64)]],ntmps:=35 } (fun x=>Zxc k x)
def Zxc.cok (k:Nat):=cXr true false (cC (Zyf.ok k) (cC (Zyl.ok k) cN))
def Zxc.l0.s (k:Nat):Summ:=lp 35 { tmps:=[(1,.eptr [.bor .str,.bor Z2]),(4,.one (.ptr 1 0)),(5,.one (.v (.int .i64))),(9,.one (.v (.int .i64)))],slots:=[(1,.box 77 [.v (.int .i64),.v .str,.v (.int .i64)])],nb:=2 } [(.exit 0,{ tmps:=[(5,.one (.v (.int .i64)))],slots:=[(1,.box 77 [.v (.int .i64),.v .str,.v (.int .i64)])],nb:=2 })] (fun j x=>Zxc.l0 k j x.1 x.2.1 x.2.2.1 x.2.2.2.1 x.2.2.2.2.1 x.2.2.2.2.2.1 x.2.2.2.2.2.2) k
def Zxc.l0.ok (k:Nat):=(lA (Zxc.cok k):Zj Tryz.prog _ (.loop (cO (cO (cR (cL (cR (cR (cB Tryz.f68)))))))) (Zxc.l0.s k))
theorem Zxc.ok (k:Nat):Zf Tryz.prog 68 (Zxc.con k):=fP (.two .auto (.two .auto (.two (.two .auto (.one (.sum (Zxc.l0.s k)))) .auto))) (Zxc.cok k) Tryz.func68 (sC (Zxc.l0.ok k) sN)
def Zmj (a1:Int):Option (Bool):=
 Ya (Zeb a1 1 8) fun v2=>
 some v2
def Zmj.con (k:Nat):Con:=Sig.con { ps:=[.val false (.int .i64) (ros (.int .i64))],rs:=[.val false [.v .bool]],ntmps:=5 } (fun x=>Zmj x)
theorem Zmj.ok (k:Nat):Zf Tryz.prog 123 (Zmj.con k):=fA (cX (cC (Zeb.ok k) cN)) Tryz.func123
def Z5h (a1:List Str):Option (Int):=
 some ((a1.length):Int)
def Z5h.con (k:Nat):Con:=Sig.con { ps:=[.val false (.sl .str) (ros (.sl .str))],rs:=[.val false [.v (.int .i64)]],ntmps:=5 } (fun x=>Z5h x)
theorem Z5h.ok (k:Nat):Zf Tryz.prog 125 (Z5h.con k):=fA (cX cN) Tryz.func125
def Zho (a1:Str):Option (Bool):=
 some (decide (96<((a1.length):Int)))
def Zho.con (k:Nat):Con:=Sig.con { ps:=[.val false .str (ros .str)],rs:=[.val false [.v .bool]],ntmps:=6 } (fun x=>Zho x)
theorem Zho.ok (k:Nat):Zf Tryz.prog 178 (Zho.con k):=fA (cX cN) Tryz.func178
def Zzd.l0:Nat→List Str→Int→Int→Option (Unit ⊕ Int)
 | 0,_,_,_=>none
 | j+1,a1,a2,a3=>
  bif decide (a3<a2) then
   Ya (at? a1 a3) fun v4=>
   Ya (Zho v4) fun v5=>
   bif v5 then
    some (.inr a3)
   else
   Zzd.l0 j a1 a2 (Yb .i64 (a3+1))
  else
  some (.inl ())
def Zzd (k:Nat) (a1:List Str):Option (Int):=
 Ya (Zzd.l0 k a1 ((a1.length):Int) 0) fun
  | .inl y2=>
   some (-1)
  | .inr y3=>
   some y3
def Zzd.con (k:Nat):Con:=Sig.con { ps:=[.val false (.sl .str) (ros (.sl .str)),.fn 178 []],rs:=[.val false [.v (.int .i64)]],ntmps:=19 } (fun x=>Zzd k x)
def Zzd.cok (k:Nat):=cX (cC (Zho.ok k) cN)
def Zzd.l0.s (k:Nat):Summ:=lp 19 { tmps:=[(0,.one (.bor .str)),(1,.fn 178 []),(7,.one (.v (.int .i64))),(8,.one (.v (.int .i64)))],slots:=[],nb:=0 } [(.exit 0,{ tmps:=[],slots:=[],nb:=0 }),(.ret,{ tmps:=[(4,.one (.v (.int .i64)))],slots:=[],nb:=0 })] (fun j x=>Zzd.l0 j x.1 x.2.1 x.2.2) k
def Zzd.l0.ok (k:Nat):=(lA (Zzd.cok k):Zj Tryz.prog _ (.loop (cO (cO (cR (cL (cR (cB Tryz.f183))))))) (Zzd.l0.s k))
theorem Zzd.ok (k:Nat):Zf Tryz.prog 183 (Zzd.con k):=fP (.two .auto (.two (.two .auto (.one (.sum (Zzd.l0.s k)))) .auto)) (Zzd.cok k) Tryz.func183 (sC (Zzd.l0.ok k) sN)
def Zmp (k:Nat) (a1:List Str):Option (Bool):=
 Ya (Zzd k a1) fun v2=>
 some (decide (0≤v2))
def Zmp.con (k:Nat):Con:=Sig.con { ps:=[.val false (.sl .str) (ros (.sl .str)),.fn 178 []],rs:=[.val false [.v .bool]],ntmps:=9 } (fun x=>Zmp k x)
theorem Zmp.ok (k:Nat):Zf Tryz.prog 127 (Zmp.con k):=fA (cX (cC (Zzd.ok k) cN)) Tryz.func127
def Zwl (a1:G25) (a2:Int):Option (Bool):=
 Ya (Z5h a1.1) fun v3=>
 Ya (Zeb a2 0 (Yb .i64 (v3-1))) fun v4=>
 some v4
def Zwl.con (k:Nat):Con:=Sig.con { ps:=[.val true T25 (ros T25),.val false (.int .i64) (ros (.int .i64))],rs:=[.val false [.v .bool]],ntmps:=11 } (fun x=>Zwl x.1 x.2)
theorem Zwl.ok (k:Nat):Zf Tryz.prog 158 (Zwl.con k):=fA (cXr true false (cC (Zeb.ok k) (cC (Z5h.ok k) cN))) Tryz.func158
def Zne.l0 (k:Nat):Nat→List Str→List Zjb→List Zjb→Int→Int→Option (Unit ⊕ Bool)
 | 0,_,_,_,_,_=>none
 | j+1,a1,a2,a3,a4,a5=>
  bif decide (a5<a4) then
   Ya (at? a3 a5) fun v6=>
   Ya (Zwl (a1,a2) v6.1) fun v7=>
   bif (!v7)||(decide (96<((v6.2.length):Int))) then
    some (.inr false)
   else
   Ya (Zvl k (a1,a2) v6.1) fun v8=>
   bif decide (v8<a5) then
    some (.inr false)
   else
   Zne.l0 k j a1 a2 a3 a4 (Yb .i64 (a5+1))
  else
  some (.inl ())
def Zne (k:Nat) (a1:G25):Option (Bool):=
 Ya (Z5h a1.1) fun v2=>
 Ya (Zeb v2 1 40) fun v3=>
 let e4:=((a1.2.length):Int)
 bif (!v3)||(decide (((a1.1.length):Int)<e4)) then
  some false
 else
 Ya (Zmp k a1.1) fun v5=>
 bif v5 then
  some false
 else
 Ya (Zne.l0 k k a1.1 a1.2 a1.2 e4 0) fun
  | .inl y6=>
   some true
  | .inr y7=>
   some y7
def Zne.con (k:Nat):Con:=Sig.con { ps:=[.val true T25 (ros T25)],rs:=[.val false [.v .bool]],ntmps:=52 } (fun x=>Zne k x)
def Zne.cok (k:Nat):=cXr true false (cC (Zeb.ok k) (cC (Z5h.ok k) (cC (Zmp.ok k) (cC (Zwl.ok k) (cC (Zvl.ok k) cN)))))
def Zne.l0.s (k:Nat):Summ:=lp 52 { tmps:=[(1,.eptr [.bor .str,.bor Z2]),(25,.one (.bor Z2)),(26,.one (.v (.int .i64))),(27,.one (.v (.int .i64)))],slots:=[],nb:=0 } [(.exit 0,{ tmps:=[],slots:=[],nb:=0 }),(.ret,{ tmps:=[(2,.one (.v .bool))],slots:=[],nb:=0 })] (fun j x=>Zne.l0 k j x.1 x.2.1 x.2.2.1 x.2.2.2.1 x.2.2.2.2) k
def Zne.l0.ok (k:Nat):=(lA (Zne.cok k):Zj Tryz.prog _ (.loop (cO (cO (cR (cL (cR (cR (cB Tryz.f124)))))))) (Zne.l0.s k))
theorem Zne.ok (k:Nat):Zf Tryz.prog 124 (Zne.con k):=fP (.two .auto (.two .auto (.two (.two .auto (.one (.sum (Zne.l0.s k)))) .auto))) (Zne.cok k) Tryz.func124 (sC (Zne.l0.ok k) sN)
def Zdd.l0:Nat→Int→Int→List Int→Option ((List Int))
 | 0,_,_,_=>none
 | j+1,a1,a2,a3=>
  bif decide (a2<24) then
   Ya (Zsb a2) fun v4=>
   let e5:=Yb .i64 (a2+1)
   bif (intBits .and .i64 (shr .i64 a1 a2) 1)==1 then
    Ya (Zu 8 a3 [a2]) fun v6=>
    Zdd.l0 j a1 e5 v6
   else
   Zdd.l0 j a1 e5 a3
  else
  some a3
def Zdd (k:Nat) (a1:Int):Option (List Int):=
 Ya (Zdd.l0 k a1 0 []) fun y2=>
 some y2
def Zdd.con (k:Nat):Con:=Sig.con { ps:=[.val false (.int .i64) (ros (.int .i64))],rs:=[.val false [.own 2 (.int .i64)]],ntmps:=19 } (fun x=>Zdd k x)
def Zdd.cok (k:Nat):=cX cN
def Zdd.l0.s (k:Nat):Summ:=lp 19 { tmps:=[(0,.one (.v (.int .i64))),(3,.one (.own 0)),(5,.one (.v (.int .i64)))],slots:=[(0,.arr false 2 (.int .i64))],nb:=1 } [(.exit 0,{ tmps:=[(3,.one (.own 1))],slots:=[(1,.arr false 2 (.int .i64))],nb:=2 })] (fun j x=>Zdd.l0 j x.1 x.2.1 x.2.2) k
def Zdd.l0.ok (k:Nat):=(lA (Zdd.cok k):Zj Tryz.prog _ (.loop (cO (cO (cR (cL (cR (cR (cB Tryz.f81)))))))) (Zdd.l0.s k))
theorem Zdd.ok (k:Nat):Zf Tryz.prog 81 (Zdd.con k):=fP (.two .auto (.two .auto (.two (.two .auto (.one (.sum (Zdd.l0.s k)))) .auto))) (Zdd.cok k) Tryz.func81 (sC (Zdd.l0.ok k) sN)
def Znj (a1:List Int):Option (Int):=
 some ((a1.length):Int)
def Znj.con (k:Nat):Con:=Sig.con { ps:=[.val false (.sl (.int .i64)) (ros (.sl (.int .i64)))],rs:=[.val false [.v (.int .i64)]],ntmps:=5 } (fun x=>Znj x)
theorem Znj.ok (k:Nat):Zf Tryz.prog 79 (Znj.con k):=fA (cX cN) Tryz.func79
def Zic.l0:Nat→Int→List Int→Int→Int→Option (Int)
 | 0,_,_,_,_=>none
 | j+1,a1,a2,a3,a4=>
  bif decide (a4<a3) then
   Ya (at? a2 a4) fun v5=>
   Ya (Zsb v5) fun v6=>
   Zic.l0 j (intBits .or .i64 a1 (shl .i64 1 v5)) a2 a3 (Yb .i64 (a4+1))
  else
  some a1
def Zic (k:Nat) (a1:List Int):Option (Int):=
 Ya (Zic.l0 k 0 a1 ((a1.length):Int) 0) fun y2=>
 some y2
def Zic.con (k:Nat):Con:=Sig.con { ps:=[.val false (.sl (.int .i64)) (ros (.sl (.int .i64)))],rs:=[.val false [.v (.int .i64)]],ntmps:=18 } (fun x=>Zic k x)
def Zic.cok (k:Nat):=cX cN
def Zic.l0.s (k:Nat):Summ:=lp 18 { tmps:=[(3,.one (.v (.int .i64))),(6,.one (.bor (.int .i64))),(7,.one (.v (.int .i64))),(8,.one (.v (.int .i64)))],slots:=[],nb:=0 } [(.exit 0,{ tmps:=[(3,.one (.v (.int .i64)))],slots:=[],nb:=0 })] (fun j x=>Zic.l0 j x.1 x.2.1 x.2.2.1 x.2.2.2) k
def Zic.l0.ok (k:Nat):=(lA (Zic.cok k):Zj Tryz.prog _ (.loop (cO (cO (cR (cL (cR (cR (cB Tryz.f82)))))))) (Zic.l0.s k))
theorem Zic.ok (k:Nat):Zf Tryz.prog 82 (Zic.con k):=fP (.two .auto (.two .auto (.two (.two .auto (.one (.sum (Zic.l0.s k)))) .auto))) (Zic.cok k) Tryz.func82 (sC (Zic.l0.ok k) sN)
def Zoe.l0:Nat→List Int→List Int→Int→Int→Option (Unit ⊕ Bool)
 | 0,_,_,_,_=>none
 | j+1,a1,a2,a3,a4=>
  bif decide (a4<a3) then
   Ya (at? a2 a4) fun v5=>
   Ya (Zeb v5 0 23) fun v6=>
   bif !v6 then
    some (.inr false)
   else
   let e7:=Yb .i64 (a4+1)
   bif decide (0<a4) then
    Ya (at? a1 (Yb .i64 (a4-1))) fun v8=>
    bif decide (v5≤v8) then
     some (.inr false)
    else
    Zoe.l0 j a1 a2 a3 e7
   else
   Zoe.l0 j a1 a2 a3 e7
  else
  some (.inl ())
def Zoe (k:Nat) (a1:List Int):Option (Bool):=
 Ya (Zoe.l0 k a1 a1 ((a1.length):Int) 0) fun
  | .inl y2=>
   some true
  | .inr y3=>
   some y3
def Zoe.con (k:Nat):Con:=Sig.con { ps:=[.val false (.sl (.int .i64)) (ros (.sl (.int .i64)))],rs:=[.val false [.v .bool]],ntmps:=29 } (fun x=>Zoe k x)
def Zoe.cok (k:Nat):=cX (cC (Zeb.ok k) cN)
def Zoe.l0.s (k:Nat):Summ:=lp 29 { tmps:=[(0,.one (.bor (.int .i64))),(5,.one (.bor (.int .i64))),(6,.one (.v (.int .i64))),(7,.one (.v (.int .i64)))],slots:=[],nb:=0 } [(.exit 0,{ tmps:=[],slots:=[],nb:=0 }),(.ret,{ tmps:=[(2,.one (.v .bool))],slots:=[],nb:=0 })] (fun j x=>Zoe.l0 j x.1 x.2.1 x.2.2.1 x.2.2.2) k
def Zoe.l0.ok (k:Nat):=(lA (Zoe.cok k):Zj Tryz.prog _ (.loop (cO (cO (cR (cL (cR (cB Tryz.f217))))))) (Zoe.l0.s k))
theorem Zoe.ok (k:Nat):Zf Tryz.prog 217 (Zoe.con k):=fP (.two .auto (.two (.two .auto (.one (.sum (Zoe.l0.s k)))) .auto)) (Zoe.cok k) Tryz.func217 (sC (Zoe.l0.ok k) sN)
end Go.Proofs.Qz
