/- What the law FnExactDo needs, part 8 of 15: the Lean functions of the Go functions that it reaches, with the proofs that the calls come to what they say, and plain facts about them. Conditions: those that each theorem states. Written by a session and by its programs (after the kit's printer). -/
import Derived.Test.YtpcllejjdmmjcaaGreatDoorXFnExactDo6
open Option renaming bind → Ya
open Go.IntKind renaming wrap → Yb
open Int renaming toNat → Yc
open List renaming set → Yd
namespace Go.Proofs.Qz
open Go Go.RowKit
set_option linter.unusedVariables false
set_option linter.defProp false
def Z8c.l0:Nat→List G52→Int→List G52→Option ((List G52))
 | 0,_,_,_=>none
 | j+1,a1,a2,a3=>
  bif (decide (a2<((a1.length):Int)))&&(decide (((a1.length):Int)≤20)) then
   Ya (at? a1 a2) fun v4=>
   let e5:=Yb .i64 (a2+1)
   bif v4.1 != 5 then
    Ya (at? a1 a2) fun v6=>
    Ya (Zt 40 a3 [v6]) fun v7=>
    Z8c.l0 j a1 e5 v7
   else
   Z8c.l0 j a1 e5 a3
  else
  some a3
def Z8c (k:Nat) (a1:List G52):Option (List G52):=
 Ya (Z8c.l0 k a1 0 []) fun y2=>
 some y2
def Z8c.con (k:Nat):Con:=Sig.con { ps:=[.val false (.sl T52) (ros (.sl T52))],rs:=[.val false [.own 52 T52]],ntmps:=31 } (fun x=>Z8c k x)
def Z8c.cok (k:Nat):=cX cN
def Z8c.l0.s (k:Nat):Summ:=lp 31 { tmps:=[(0,.one (.bor T52)),(3,.one (.own 1)),(4,.one (.v (.int .i64)))],slots:=[(1,.arr false 52 T52)],nb:=2 } [(.exit 0,{ tmps:=[(3,.one (.own 2))],slots:=[(2,.arr false 52 T52)],nb:=3 })] (fun j x=>Z8c.l0 j x.1 x.2.1 x.2.2) k
def Z8c.l0.ok (k:Nat):=(lA (Z8c.cok k):Zj Tryz.prog _ (.loop (cO (cO (cR (cL (cR (cR (cB Tryz.f178)))))))) (Z8c.l0.s k))
theorem Z8c.ok (k:Nat):Zf Tryz.prog 178 (Z8c.con k):=fP (.two .auto (.two .auto (.two (.two .auto (.one (.sum (Z8c.l0.s k)))) .auto))) (Z8c.cok k) Tryz.func178 (sC (Z8c.l0.ok k) sN)
def Zcs (a1:G52) (a2:Int):Option (Bool):=
 some (((a1.1==3)||(a1.1==4))&&(a1.2.2.1==a2))
def Zcs.con (k:Nat):Con:=Sig.con { ps:=[.val true T52 (ros T52),.val false (.int .i64) (ros (.int .i64))],rs:=[.val false [.v .bool]],ntmps:=19 } (fun x=>Zcs x.1 x.2)
theorem Zcs.ok (k:Nat):Zf Tryz.prog 289 (Zcs.con k):=fA (cX cN) Tryz.func289
def Z3c.l0:Nat→List G52→List Bool→Int→Int→Option (Unit ⊕ Bool)
 | 0,_,_,_,_=>none
 | j+1,a1,a2,a3,a4=>
  bif decide (a4<((a1.length):Int)) then
   let e5:=Yb .i64 (a4+1)
   bif a4 != a3 then
    Ya (at? a2 a4) fun v6=>
    bif v6 then
     Ya (at? a1 a4) fun v7=>
     Ya (at? a1 a3) fun v8=>
     Ya (Zcs v7 v8.2.1) fun v9=>
     bif v9 then
      some (.inr true)
     else
     Z3c.l0 j a1 a2 a3 e5
    else
    Z3c.l0 j a1 a2 a3 e5
   else
   Z3c.l0 j a1 a2 a3 e5
  else
  some (.inl ())
def Z3c (k:Nat) (a1:List G52) (a2:List Bool) (a3:List Bool) (a4:Int):Option (Bool):=
 Ya (at? a1 a4) fun v5=>
 Ya (at? a3 v5.2.1) fun v6=>
 bif v6 then
  some false
 else
 Ya (Z3c.l0 k a1 a2 a4 0) fun
  | .inl y7=>
   some false
  | .inr y8=>
   some y8
def Z3c.con (k:Nat):Con:=Sig.con { ps:=[.val false (.sl T52) (ros (.sl T52)),.val false (.sl .bool) (ros (.sl .bool)),.val false (.sl .bool) (ros (.sl .bool)),.val false (.int .i64) (ros (.int .i64))],rs:=[.val false [.v .bool]],ntmps:=45 } (fun x=>Z3c k x.1 x.2.1 x.2.2.1 x.2.2.2)
def Z3c.cok (k:Nat):=cX (cC (Zcs.ok k) cN)
def Z3c.l0.s (k:Nat):Summ:=lp 45 { tmps:=[(0,.one (.bor T52)),(1,.one (.bor .bool)),(3,.one (.v (.int .i64))),(9,.one (.v (.int .i64)))],slots:=[],nb:=0 } [(.exit 0,{ tmps:=[],slots:=[],nb:=0 }),(.ret,{ tmps:=[(8,.one (.v .bool))],slots:=[],nb:=0 })] (fun j x=>Z3c.l0 j x.1 x.2.1 x.2.2.1 x.2.2.2) k
def Z3c.l0.ok (k:Nat):=(lA (Z3c.cok k):Zj Tryz.prog _ (.loop (cO (cO (cR (cL (cR (cR (cB Tryz.f251)))))))) (Z3c.l0.s k))
theorem Z3c.ok (k:Nat):Zf Tryz.prog 251 (Z3c.con k):=fP (.two .auto (.two .auto (.two (.two .auto (.one (.sum (Z3c.l0.s k)))) .auto))) (Z3c.cok k) Tryz.func251 (sC (Z3c.l0.ok k) sN)
def Zkd.l0 (k:Nat):Nat→List G52→List Bool→List Bool→Int→Int→Int→Option ((Int×Int))
 | 0,_,_,_,_,_,_=>none
 | j+1,a1,a2,a3,a4,a5,a6=>
  bif decide (a6<((a1.length):Int)) then
   Ya (at? a2 a6) fun v7=>
   let e8:=Yb .i64 (a6+1)
   bif !v7 then
    Zkd.l0 k j a1 a2 a3 a4 a5 e8
   else
   bif decide (a5<0) then
    bif decide (a4<0) then
     Ya (Z3c k a1 a2 a3 a6) fun v9=>
     bif !v9 then
      Zkd.l0 k j a1 a2 a3 a6 a6 e8
     else
     Zkd.l0 k j a1 a2 a3 a4 a6 e8
    else
    Zkd.l0 k j a1 a2 a3 a4 a6 e8
   else
   bif decide (a4<0) then
    Ya (Z3c k a1 a2 a3 a6) fun v10=>
    bif !v10 then
     Zkd.l0 k j a1 a2 a3 a6 a5 e8
    else
    Zkd.l0 k j a1 a2 a3 a4 a5 e8
   else
   Zkd.l0 k j a1 a2 a3 a4 a5 e8
  else
  some (a4,a5)
def Zkd (k:Nat) (a1:List G52) (a2:List Bool) (a3:List Bool):Option (Int×Int):=
 Ya (Zkd.l0 k k a1 a2 a3 (-1) (-1) 0) fun y4=>
 some (y4.1,y4.2)
def Zkd.con (k:Nat):Con:=Sig.con { ps:=[.val false (.sl T52) (ros (.sl T52)),.val false (.sl .bool) (ros (.sl .bool)),.val false (.sl .bool) (ros (.sl .bool))],rs:=[.val false [.v (.int .i64)],.val false [.v (.int .i64)]],ntmps:=38 } (fun x=>Zkd k x.1 x.2.1 x.2.2)
def Zkd.cok (k:Nat):=cX (cC (Z3c.ok k) cN)
def Zkd.l0.s (k:Nat):Summ:=lp 38 { tmps:=[(0,.one (.bor T52)),(1,.one (.bor .bool)),(2,.one (.bor .bool)),(8,.one (.v (.int .i64))),(9,.one (.v (.int .i64))),(10,.one (.v (.int .i64)))],slots:=[],nb:=0 } [(.exit 0,{ tmps:=[(8,.one (.v (.int .i64))),(9,.one (.v (.int .i64)))],slots:=[],nb:=0 })] (fun j x=>Zkd.l0 k j x.1 x.2.1 x.2.2.1 x.2.2.2.1 x.2.2.2.2.1 x.2.2.2.2.2) k
def Zkd.l0.ok (k:Nat):=(lA (Zkd.cok k):Zj Tryz.prog _ (.loop (cO (cO (cR (cL (cR (cR (cB Tryz.f179)))))))) (Zkd.l0.s k))
theorem Zkd.ok (k:Nat):Zf Tryz.prog 179 (Zkd.con k):=fP (.two .auto (.two .auto (.two (.two .auto (.one (.sum (Zkd.l0.s k)))) .auto))) (Zkd.cok k) Tryz.func179 (sC (Zkd.l0.ok k) sN)
def Z0b.l0:Nat→Int→List G52→List Bool→Option ((List G52×List Bool))
 | 0,_,_,_=>none
 | j+1,a1,a2,a3=>
  bif decide (a1<((a2.length):Int)) then
   Ya (at? a3 a1) fun v4=>
   Ya (at? a3 a1) fun v5=>
   Z0b.l0 j (Yb .i64 (a1+1)) a2 (Yd a3 (Yc a1) true)
  else
  some (a2,a3)
def Z0b.l1 (k:Nat):Nat→Int→List G52→List Bool→List Bool→List Zad→Option ((List Zad))
 | 0,_,_,_,_,_=>none
 | j+1,a1,a2,a3,a4,a5=>
  Ya (Zkd k a2 a3 a4) fun v6=>
  bif decide (v6.2<0) then
   some a5
  else
  bif decide (0≤v6.1) then
   let e7:=at? a2 v6.1
   Ya (e7) fun v8=>
   Ya (e7) fun v9=>
   Ya (Zt 32 a5 [(2,(v6.1,(v9.2.1,0)))]) fun v10=>
   let e11:=at? a3 v6.1
   Ya (e11) fun v12=>
   Ya (e11) fun v13=>
   Z0b.l1 k j a1 a2 (Yd a3 (Yc v6.1) false) a4 v10
  else
  let e14:=at? a2 v6.2
  Ya (e14) fun v15=>
  Ya (e14) fun v16=>
  Ya (Zt 32 a5 [(1,(v6.2,(v16.2.1,a1)))]) fun v17=>
  Ya (e14) fun v18=>
  Ya (e14) fun v19=>
  let e20:=at? a4 v19.2.1
  Ya (e20) fun v21=>
  Ya (e20) fun v22=>
  Z0b.l1 k j (Yb .i64 (a1+1)) a2 a3 (Yd a4 (Yc v19.2.1) true) v17
def Z0b (k:Nat) (a1:List G52):Option (List Zad):=
 Ya (Z8c k a1) fun v2=>
 Ya (Zwg 1 ((v2.length):Int) ((v2.length):Int) false) fun v3=>
 Ya (Z0b.l0 k 0 v2 v3) fun y4=>
 Ya (Zwg 1 8 8 false) fun v5=>
 Ya (Z0b.l1 k k 0 y4.1 y4.2 v5 []) fun y6=>
 some y6
def Z0b.con (k:Nat):Con:=Sig.con { ps:=[.val false (.sl T52) (ros (.sl T52))],rs:=[.val false [.own 139 Z4b]],ntmps:=74 } (fun x=>Z0b k x)
def Z0b.cok (k:Nat):=cX (cC (Z8c.ok k) (cC (Zkd.ok k) cN))
def Z0b.l0.s (k:Nat):Summ:=lp 74 { tmps:=[(3,.one (.own 2)),(4,.one (.own 3)),(5,.one (.v (.int .i64)))],slots:=[(2,.arr false 52 T52),(3,.arr false 4 .bool)],nb:=4 } [(.exit 0,{ tmps:=[(3,.one (.own 4)),(4,.one (.own 5))],slots:=[(4,.arr false 52 T52),(5,.arr false 4 .bool)],nb:=6 })] (fun j x=>Z0b.l0 j x.1 x.2.1 x.2.2) k
def Z0b.l0.ok (k:Nat):=(lA (Z0b.cok k):Zj Tryz.prog _ (.loop (cO (cO (cR (cL (cR (cR (cR (cB Tryz.f88))))))))) (Z0b.l0.s k))
def Z0b.l1.s (k:Nat):Summ:=lp 74 { tmps:=[(3,.one (.own 8)),(4,.one (.own 9)),(6,.one (.own 10)),(7,.one (.own 11)),(8,.one (.v (.int .i64)))],slots:=[(8,.arr false 52 T52),(9,.arr false 4 .bool),(10,.arr false 4 .bool),(11,.arr false 139 Z4b)],nb:=12 } [(.ret,{ tmps:=[(2,.one (.own 12))],slots:=[(12,.arr false 139 Z4b)],nb:=13 })] (fun j x=>Z0b.l1 k j x.1 x.2.1 x.2.2.1 x.2.2.2.1 x.2.2.2.2) k
def Z0b.l1.ok (k:Nat):=(lA (Z0b.cok k):Zj Tryz.prog _ (.loop (cO (cO (cR (cR (cR (cR (cR (cR (cR (cB Tryz.f88))))))))))) (Z0b.l1.s k))
theorem Z0b.ok (k:Nat):Zf Tryz.prog 88 (Z0b.con k):=fP (.two .auto (.two .auto (.two .auto (.two (.two .auto (.one (.sum (Z0b.l0.s k)))) (.two .auto (.two .auto (.two .auto (.one (.sum (Z0b.l1.s k)))))))))) (Z0b.cok k) Tryz.func88 (sC (Z0b.l0.ok k) (sC (Z0b.l1.ok k) sN))
def Znj (k:Nat) (a1:List G52) (a2:Int):Option (List Zad×Int):=
 bif decide (400<((a1.length):Int)) then
  some ([],2)
 else
 Ya (Zs k a1 a2) fun v3=>
 bif v3 != 0 then
  some ([],v3)
 else
 Ya (Z0b k a1) fun v4=>
 some (v4,0)
def Znj.con (k:Nat):Con:=Sig.con { ps:=[.val false (.sl T52) (ros (.sl T52)),.val false (.int .i64) (ros (.int .i64))],rs:=[.val true [.own 139 Z4b,.v (.int .i64)]],ntmps:=20 } (fun x=>Znj k x.1 x.2)
theorem Znj.ok (k:Nat):Zf Tryz.prog 45 (Znj.con k):=fA (cX (cC (Zs.ok k) (cC (Z0b.ok k) cN))) Tryz.func45
def Zzg (a1:G28) (a2:Int):Option (Int):=
 some (Yb .i64 ((Yb .i64 (3+a1.1))+a2))
def Zzg.con (k:Nat):Con:=Sig.con { ps:=[.val true T28 (ros T28),.val false (.int .i64) (ros (.int .i64))],rs:=[.val false [.v (.int .i64)]],ntmps:=10 } (fun x=>Zzg x.1 x.2)
theorem Zzg.ok (k:Nat):Zf Tryz.prog 275 (Zzg.con k):=fA (cXr true false cN) Tryz.func275
def Zwl (k:Nat) (a1:G52):Option (Str):=
 Ya (Z6b k a1.1) fun v2=>
 Ya (Z6b k a1.2.1) fun v3=>
 Ya (Zpc v2 v3) fun v4=>
 Ya (Z6b k a1.2.2.1) fun v5=>
 Ya (Zpc v4 v5) fun v6=>
 Ya (Zxi k a1.2.2.2) fun v7=>
 Ya (Zpc v6 v7) fun v8=>
 some v8
def Zwl.con (k:Nat):Con:=Sig.con { ps:=[.val true T52 (ros T52)],rs:=[.val false [.v .str]],ntmps:=18 } (fun x=>Zwl k x)
theorem Zwl.ok (k:Nat):Zf Tryz.prog 301 (Zwl.con k):=fA (cX (cC (Z6b.ok k) (cC (Zxi.ok k) cN))) Tryz.func301
def Z0k (k:Nat) (a1:Int) (a2:G52):Option (Str):=
 Ya (Zfb a1 0 1000000) fun v3=>
 bif !v3 then
  some ([])
 else
 Ya (Z5h a2 8) fun v4=>
 bif !v4 then
  some ([])
 else
 Ya (Z6b k a1) fun v5=>
 Ya (Zwl k a2) fun v6=>
 Ya (Zpc v5 v6) fun v7=>
 Ya (Z2k k v7) fun v8=>
 some v8
def Z0k.con (k:Nat):Con:=Sig.con { ps:=[.val false (.int .i64) (ros (.int .i64)),.val true T52 (ros T52)],rs:=[.val false [.v .str]],ntmps:=19 } (fun x=>Z0k k x.1 x.2)
theorem Z0k.ok (k:Nat):Zf Tryz.prog 276 (Z0k.con k):=fA (cX (cC (Zfb.ok k) (cC (Z6b.ok k) (cC (Z5h.ok k) (cC (Z2k.ok k) (cC (Zwl.ok k) cN)))))) Tryz.func276
def Zkq (k:Nat) (a1:G52):Option (Str):=
 Ya (Z5h a1 8) fun v2=>
 bif !v2 then
  some ([])
 else
 Ya (Zwl k a1) fun v3=>
 some v3
def Zkq.con (k:Nat):Con:=Sig.con { ps:=[.val true T52 (ros T52)],rs:=[.val false [.v .str]],ntmps:=8 } (fun x=>Zkq k x)
theorem Zkq.ok (k:Nat):Zf Tryz.prog 324 (Zkq.con k):=fA (cX (cC (Z5h.ok k) (cC (Zwl.ok k) cN))) Tryz.func324
def Zvl (k:Nat) (a1:Str):Option (Int×Int×Int×Str×Int):=
 bif decide (8000<((a1.length):Int)) then
  some (0,0,0,[],2)
 else
 Ya (Zcc k (a1,(0,false))) fun v2=>
 Ya (Zcc k v2.2) fun v3=>
 Ya (Zcc k v3.2) fun v4=>
 Ya (Zth k v4.2) fun v5=>
 bif v5.2.2.2 then
  some (0,0,0,[],3)
 else
 Ya (Zkq k (v2.1,(v3.1,(v4.1,v5.1)))) fun v6=>
 bif !(v6==a1) then
  some (0,0,0,[],3)
 else
 some (v2.1,v3.1,v4.1,v5.1,0)
def Zvl.con (k:Nat):Con:=Sig.con { ps:=[.val false .str (ros .str)],rs:=[.val true [.v (.int .i64),.v (.int .i64),.v (.int .i64),.v .str,.v (.int .i64)]],ntmps:=37 } (fun x=>Zvl k x)
theorem Zvl.ok (k:Nat):Zf Tryz.prog 317 (Zvl.con k):=fA (cX (cC (Zcc.ok k) (cC (Zth.ok k) (cC (Zkq.ok k) cN)))) Tryz.func317
def Z1k (k:Nat) (a1:Str) (a2:Int):Option (Int×Int×Int×Str×Int):=
 Ya (Z3k k a1) fun v3=>
 bif v3.2.2 != 0 then
  some (0,0,0,[],v3.2.2)
 else
 Ya (Zcc k (v3.1,(0,false))) fun v4=>
 Ya (Z9b v3.1 v4.2.2.1 ((v3.1.length):Int)) fun v5=>
 Ya (Zvl k v5) fun v6=>
 bif v4.2.2.2||(v6.2.2.2.2 != 0) then
  some (0,0,0,[],3)
 else
 Ya (Z0k k v4.1 (v6.1,(v6.2.1,(v6.2.2.1,v6.2.2.2.1)))) fun v7=>
 bif !(v7==a1) then
  some (0,0,0,[],3)
 else
 bif v4.1 != a2 then
  some (0,0,0,[],6)
 else
 some (v6.1,v6.2.1,v6.2.2.1,v6.2.2.2.1,v6.2.2.2.2)
def Z1k.con (k:Nat):Con:=Sig.con { ps:=[.val false .str (ros .str),.val false (.int .i64) (ros (.int .i64))],rs:=[.val true [.v (.int .i64),.v (.int .i64),.v (.int .i64),.v .str,.v (.int .i64)]],ntmps:=54 } (fun x=>Z1k k x.1 x.2)
theorem Z1k.ok (k:Nat):Zf Tryz.prog 307 (Z1k.con k):=fA (cX (cC (Z3k.ok k) (cC (Zcc.ok k) (cC (Z0k.ok k) (cC (Zvl.ok k) cN))))) Tryz.func307
def Zyf.l0 (k:Nat):Nat→List Str→Int→List G52→Option ((List G52))
 | 0,_,_,_=>none
 | j+1,a1,a2,a3=>
  bif decide (a2<((a1.length):Int)) then
   Ya (at? a1 a2) fun v4=>
   Ya (Z1k k v4 a2) fun v5=>
   bif v5.2.2.2.2 != 0 then
    some a3
   else
   Ya (Zt 40 a3 [(v5.1,(v5.2.1,(v5.2.2.1,v5.2.2.2.1)))]) fun v6=>
   Zyf.l0 k j a1 (Yb .i64 (a2+1)) v6
  else
  some a3
def Zyf (k:Nat) (a1:List Str):Option (List G52):=
 Ya (Zyf.l0 k k a1 0 []) fun y2=>
 some y2
def Zyf.con (k:Nat):Con:=Sig.con { ps:=[.val false (.sl .str) (ros (.sl .str))],rs:=[.val false [.own 52 T52]],ntmps:=28 } (fun x=>Zyf k x)
def Zyf.cok (k:Nat):=cX (cC (Z1k.ok k) cN)
def Zyf.l0.s (k:Nat):Summ:=lp 28 { tmps:=[(0,.one (.bor .str)),(3,.one (.own 1)),(4,.one (.v (.int .i64)))],slots:=[(1,.arr false 52 T52)],nb:=2 } [(.exit 0,{ tmps:=[(3,.one (.own 2))],slots:=[(2,.arr false 52 T52)],nb:=3 })] (fun j x=>Zyf.l0 k j x.1 x.2.1 x.2.2) k
def Zyf.l0.ok (k:Nat):=(lA (Zyf.cok k):Zj Tryz.prog _ (.loop (cO (cO (cR (cL (cR (cR (cB Tryz.f288)))))))) (Zyf.l0.s k))
theorem Zyf.ok (k:Nat):Zf Tryz.prog 288 (Zyf.con k):=fP (.two .auto (.two .auto (.two (.two .auto (.one (.sum (Zyf.l0.s k)))) .auto))) (Zyf.cok k) Tryz.func288 (sC (Zyf.l0.ok k) sN)
def Zic.l0 (k:Nat):Nat→Int→List Str→List Zr→Int→Int→Int→Int→Int→Str→List Int→List Int→Int→List Str→Option ((List Str))
 | 0,_,_,_,_,_,_,_,_,_,_,_,_,_=>none
 | j+1,a1,a2,a3,a4,a5,a6,a7,a8,a9,a10,a11,a12,a13=>
  bif decide (a12<((a11.length):Int)) then
   Ya (at? a11 a12) fun v14=>
   Ya (Zzg (a1,(a2,a3)) v14) fun v15=>
   Ya (Zsb k (a2,a3) v15) fun v16=>
   Ya (Zt 16 a13 [v16]) fun v17=>
   Zic.l0 k j a1 a2 a3 a4 a5 a6 a7 a8 a9 a10 a11 (Yb .i64 (a12+1)) v17
  else
  some a13
def Zic (k:Nat) (a1:G28) (a2:G46):Option (List G52):=
 Ya (Zic.l0 k k a1.1 a1.2.1 a1.2.2 a2.1 a2.2.1 a2.2.2.1 a2.2.2.2.1 a2.2.2.2.2.1 a2.2.2.2.2.2.1 a2.2.2.2.2.2.2.1 a2.2.2.2.2.2.2.2 a2.2.2.2.1 []) fun y3=>
 Ya (Zyf k y3) fun v4=>
 some v4
def Zic.con (k:Nat):Con:=Sig.con { ps:=[.val true T28 (ros T28),.val true T46 (ros T46)],rs:=[.val false [.own 52 T52]],ntmps:=32 } (fun x=>Zic k x.1 x.2)
def Zic.cok (k:Nat):=cXr true false (cC (Zsb.ok k) (cC (Zzg.ok k) (cC (Zyf.ok k) cN)))
def Zic.l0.s (k:Nat):Summ:=lp 32 { tmps:=[(2,.eptr [.v (.int .i64),.bor .str,.bor Zp]),(3,.eptr [.v (.int .i64),.v (.int .i64),.v (.int .i64),.v (.int .i64),.v (.int .i64),.v .str,.bor (.int .i64),.bor (.int .i64)]),(5,.one (.own 1)),(6,.one (.v (.int .i64)))],slots:=[(1,.arr false 9 .str)],nb:=2 } [(.exit 0,{ tmps:=[(5,.one (.own 2))],slots:=[(2,.arr false 9 .str)],nb:=3 })] (fun j x=>Zic.l0 k j x.1 x.2.1 x.2.2.1 x.2.2.2.1 x.2.2.2.2.1 x.2.2.2.2.2.1 x.2.2.2.2.2.2.1 x.2.2.2.2.2.2.2.1 x.2.2.2.2.2.2.2.2.1 x.2.2.2.2.2.2.2.2.2.1 x.2.2.2.2.2.2.2.2.2.2.1 x.2.2.2.2.2.2.2.2.2.2.2.1 x.2.2.2.2.2.2.2.2.2.2.2.2) k
def Zic.l0.ok (k:Nat):=(lA (Zic.cok k):Zj Tryz.prog _ (.loop (cO (cO (cR (cL (cR (cR (cB Tryz.f245)))))))) (Zic.l0.s k))
theorem Zic.ok (k:Nat):Zf Tryz.prog 245 (Zic.con k):=fP (.two .auto (.two .auto (.two (.two .auto (.one (.sum (Zic.l0.s k)))) .auto))) (Zic.cok k) Tryz.func245 (sC (Zic.l0.ok k) sN)
def Zds (k:Nat) (a1:G28) (a2:G46):Option (Bool):=
 bif decide (a2.1≤2) then
  some true
 else
 Ya (Zic k a1 a2) fun v3=>
 Ya (Znj k v3 a1.1) fun v4=>
 bif v4.2==0 then
  Ya (Zje k v4.1) fun v5=>
  bif decide (v5≤a2.2.2.2.1) then
   some (decide (a2.2.2.2.2.1≤((v4.1.length):Int)))
  else
  some false
 else
 some false
def Zds.con (k:Nat):Con:=Sig.con { ps:=[.val true T28 (ros T28),.val true T46 (ros T46)],rs:=[.val false [.v .bool]],ntmps:=34 } (fun x=>Zds k x.1 x.2)
theorem Zds.ok (k:Nat):Zf Tryz.prog 164 (Zds.con k):=fA (cXr true false (cC (Zje.ok k) (cC (Znj.ok k) (cC (Zic.ok k) cN)))) Tryz.func164
def Z5n (k:Nat) (a1:G28):Option (Bool):=
 Ya (Zyi k a1) fun v2=>
 bif v2.2.2.2.2.2.2.2.2 then
  Ya (Z6d k a1) fun v3=>
  Ya (Zrc k v3) fun v4=>
  bif v4 then
   Ya (Zds k a1 (v2.1,(v2.2.1,(v2.2.2.1,(v2.2.2.2.1,(v2.2.2.2.2.1,(v2.2.2.2.2.2.1,(v2.2.2.2.2.2.2.1,v2.2.2.2.2.2.2.2.1)))))))) fun v5=>
   some v5
  else
  some false
 else
 some false
def Z5n.con (k:Nat):Con:=Sig.con { ps:=[.val true T28 (ros T28)],rs:=[.val false [.v .bool]],ntmps:=21 } (fun x=>Z5n k x)
theorem Z5n.ok (k:Nat):Zf Tryz.prog 80 (Z5n.con k):=fA (cXr true false (cC (Zrc.ok k) (cC (Zyi.ok k) (cC (Z6d.ok k) (cC (Zds.ok k) cN))))) Tryz.func80
def Zgq (a1:G54):Option (Bool):=
 Ya (Zfb a1.1 1 11) fun v2=>
 bif !v2 then
  some false
 else
 let e3:=a1.1==1
 let e4:=a1.1==2
 let e5:=(!e3)&&((a1.2.2.1 != 0)||(!(a1.2.2.2.1==[])))
 let e6:=(!e4)&&(!((a1.2.2.2.2.1==0)&&((a1.2.2.2.2.2.1==0)&&((a1.2.2.2.2.2.2.1==0)&&(a1.2.2.2.2.2.2.2==[])))))
 let e7:=a1.1==9
 let e8:=a1.1==7
 let e9:=a1.2.1==0
 bif e3 then
  Ya (Zfb a1.2.1 1 20) fun v10=>
  bif !v10 then
   some false
  else
  Ya (Zfb a1.2.2.1 0 4) fun v11=>
  bif (!v11)||(((a1.2.2.2.1.length):Int) != 32) then
   some false
  else
  bif e5 then
   some false
  else
  bif e4 then
   Ya (Z5h a1.2.2.2.2 8) fun v12=>
   bif (!v12)||e6 then
    some false
   else
   bif e3 then
    some true
   else
   bif e7 then
    Ya (Zfb a1.2.1 1 24) fun v13=>
    some v13
   else
   bif e8 then
    Ya (Zfb a1.2.1 0 1000000) fun v14=>
    some v14
   else
   some e9
  else
  bif e6 then
   some false
  else
  bif e3 then
   some true
  else
  bif e7 then
   Ya (Zfb a1.2.1 1 24) fun v15=>
   some v15
  else
  bif e8 then
   Ya (Zfb a1.2.1 0 1000000) fun v16=>
   some v16
  else
  some e9
 else
 bif e5 then
  some false
 else
 bif e4 then
  Ya (Z5h a1.2.2.2.2 8) fun v17=>
  bif (!v17)||e6 then
   some false
  else
  bif e3 then
   some true
  else
  bif e7 then
   Ya (Zfb a1.2.1 1 24) fun v18=>
   some v18
  else
  bif e8 then
   Ya (Zfb a1.2.1 0 1000000) fun v19=>
   some v19
  else
  some e9
 else
 bif e6 then
  some false
 else
 bif e3 then
  some true
 else
 bif e7 then
  Ya (Zfb a1.2.1 1 24) fun v20=>
  some v20
 else
 bif e8 then
  Ya (Zfb a1.2.1 0 1000000) fun v21=>
  some v21
 else
 some e9
def Zgq.con (k:Nat):Con:=Sig.con { ps:=[.val true T54 (ros T54)],rs:=[.val false [.v .bool]],ntmps:=83 } (fun x=>Zgq x)
theorem Zgq.ok (k:Nat):Zf Tryz.prog 150 (Zgq.con k):=fA (cX (cC (Zfb.ok k) (cC (Z5h.ok k) cN))) Tryz.func150
def Zni (k:Nat) (a1:G28) (a2:G54):Option (Int):=
 Ya (Z5n k a1) fun v3=>
 bif !v3 then
  some 1
 else
 Ya (Zgq a2) fun v4=>
 bif !v4 then
  some 1
 else
 Ya (Z5k k a1.2) fun v5=>
 bif decide (1000000≤v5.1) then
  some 9
 else
 some 0
def Zni.con (k:Nat):Con:=Sig.con { ps:=[.val true T28 (ros T28),.val true T54 (ros T54)],rs:=[.val false [.v (.int .i64)]],ntmps:=24 } (fun x=>Zni k x.1 x.2)
theorem Zni.ok (k:Nat):Zf Tryz.prog 69 (Zni.con k):=fA (cXr true false (cC (Z5n.ok k) (cC (Z5k.ok k) (cC (Zgq.ok k) cN)))) Tryz.func69
def Zhg (a1:Int):Option (List Z5c×Str×List Int×Int):=
 some ([],[],[],a1)
def Zhg.con (k:Nat):Con:=Sig.con { ps:=[.val false (.int .i64) (ros (.int .i64))],rs:=[.val true [.own 151 Zjc,.v .str,.own 2 (.int .i64),.v (.int .i64)]],ntmps:=5 } (fun x=>Zhg x)
theorem Zhg.ok (k:Nat):Zf Tryz.prog 151 (Zhg.con k):=fA (cX cN) Tryz.func151
def Zoj (a1:G46):Option (Int×Int×Int×Int×Int×Str×List Int×List Int):=
 Ya (Zt 8 [] a1.2.2.2.2.2.2.1) fun v2=>
 Ya (Zt 8 [] a1.2.2.2.2.2.2.2) fun v3=>
 some (a1.1,a1.2.1,a1.2.2.1,a1.2.2.2.1,a1.2.2.2.2.1,a1.2.2.2.2.2.1,v2,v3)
def Zoj.con (k:Nat):Con:=Sig.con { ps:=[.val true T46 (ros T46)],rs:=[.val true [.v (.int .i64),.v (.int .i64),.v (.int .i64),.v (.int .i64),.v (.int .i64),.v .str,.own 2 (.int .i64),.own 2 (.int .i64)]],ntmps:=14 } (fun x=>Zoj x)
theorem Zoj.ok (k:Nat):Zf Tryz.prog 228 (Zoj.con k):=fA (cX cN) Tryz.func228
def Znq (k:Nat) (a1:G26) (a2:Str):Option (List Z5c):=
 Ya (Z5k k a1) fun v3=>
 bif decide (1000000≤v3.1) then
  some ([])
 else
 let e4:=(true,(0,[]))
 bif v3.2.2.2 != 0 then
  Ya (Zek k (Yb .i64 (v3.1+1)) a2) fun v5=>
  some ([(false,(0,v5)),e4])
 else
 Ya (Zek k (Yb .i64 (v3.1+1)) a2) fun v6=>
 some ([(false,(1,v6)),e4])
def Znq.con (k:Nat):Con:=Sig.con { ps:=[.val true T26 (ros T26),.val false .str (ros .str)],rs:=[.val false [.own 151 Zjc]],ntmps:=28 } (fun x=>Znq k x.1 x.2)
theorem Znq.ok (k:Nat):Zf Tryz.prog 54 (Znq.con k):=fA (cXr true false (cC (Z5k.ok k) (cC (Zek.ok k) cN))) Tryz.func54
def Zye (k:Nat) (a1:G28) (a2:G46):Option (List Z5c):=
 Ya (Zxl k a2) fun v3=>
 Ya (Znq k a1.2 v3) fun v4=>
 some v4
def Zye.con (k:Nat):Con:=Sig.con { ps:=[.val true T28 (ros T28),.val true T46 (ros T46)],rs:=[.val false [.own 151 Zjc]],ntmps:=10 } (fun x=>Zye k x.1 x.2)
theorem Zye.ok (k:Nat):Zf Tryz.prog 232 (Zye.con k):=fA (cXr true false (cC (Znq.ok k) (cC (Zxl.ok k) cN))) Tryz.func232
def Z5d.l0 (k:Nat):Nat→List Int→List Int→Int→List Int→Option ((List Int))
 | 0,_,_,_,_=>none
 | j+1,a1,a2,a3,a4=>
  bif decide (a3<24) then
   Ya (Z9c k a1 a3) fun v5=>
   let e6:=Yb .i64 (a3+1)
   bif !v5 then
    Ya (Z9c k a2 a3) fun v7=>
    bif !v7 then
     Ya (Zt 8 a4 [a3]) fun v8=>
     Z5d.l0 k j a1 a2 e6 v8
    else
    Z5d.l0 k j a1 a2 e6 a4
   else
   Z5d.l0 k j a1 a2 e6 a4
  else
  some a4
def Z5d (k:Nat) (a1:List Int) (a2:List Int):Option (List Int):=
 Ya (Z5d.l0 k k a1 a2 0 []) fun y3=>
 some y3
def Z5d.con (k:Nat):Con:=Sig.con { ps:=[.val false (.sl (.int .i64)) (ros (.sl (.int .i64))),.val false (.sl (.int .i64)) (ros (.sl (.int .i64)))],rs:=[.val false [.own 2 (.int .i64)]],ntmps:=27 } (fun x=>Z5d k x.1 x.2)
def Z5d.cok (k:Nat):=cX (cC (Z9c.ok k) cN)
def Z5d.l0.s (k:Nat):Summ:=lp 27 { tmps:=[(0,.one (.bor (.int .i64))),(1,.one (.bor (.int .i64))),(5,.one (.own 1)),(6,.one (.v (.int .i64)))],slots:=[(1,.arr false 2 (.int .i64))],nb:=2 } [(.exit 0,{ tmps:=[(5,.one (.own 2))],slots:=[(2,.arr false 2 (.int .i64))],nb:=3 })] (fun j x=>Z5d.l0 k j x.1 x.2.1 x.2.2.1 x.2.2.2) k
def Z5d.l0.ok (k:Nat):=(lA (Z5d.cok k):Zj Tryz.prog _ (.loop (cO (cO (cR (cL (cR (cR (cB Tryz.f282)))))))) (Z5d.l0.s k))
theorem Z5d.ok (k:Nat):Zf Tryz.prog 282 (Z5d.con k):=fP (.two .auto (.two .auto (.two (.two .auto (.one (.sum (Z5d.l0.s k)))) .auto))) (Z5d.cok k) Tryz.func282 (sC (Z5d.l0.ok k) sN)
def Zve.l0:Nat→List Int→Int→List Zjk→Option ((List Zjk))
 | 0,_,_,_=>none
 | j+1,a1,a2,a3=>
  bif decide (a2<((a1.length):Int)) then
   let e4:=Yb .i64 (a2+1)
   bif decide (0<a2) then
    Ya (at? a1 (Yb .i64 (a2-1))) fun v5=>
    Ya (at? a1 a2) fun v6=>
    bif (Yb .i64 (v5+1))==v6 then
     let e7:=Yb .i64 (((a3.length):Int)-1)
     let e8:=at? a3 e7
     Ya (e8) fun v9=>
     Ya (e8) fun v10=>
     Ya (e8) fun v11=>
     Ya (e8) fun v12=>
     Zve.l0 j a1 e4 (Yd a3 (Yc e7) (v12.1,(Yb .i64 (v10.2+1))))
    else
    Ya (at? a1 a2) fun v13=>
    Ya (Zt 16 a3 [(v13,1)]) fun v14=>
    Zve.l0 j a1 e4 v14
   else
   Ya (at? a1 a2) fun v15=>
   Ya (Zt 16 a3 [(v15,1)]) fun v16=>
   Zve.l0 j a1 e4 v16
  else
  some a3
def Zve (k:Nat) (a1:List Int):Option (List Zjk):=
 Ya (Zve.l0 k a1 0 []) fun y2=>
 some y2
def Zve.con (k:Nat):Con:=Sig.con { ps:=[.val false (.sl (.int .i64)) (ros (.sl (.int .i64)))],rs:=[.val false [.own 243 Zci]],ntmps:=50 } (fun x=>Zve k x)
def Zve.cok (k:Nat):=cX cN
def Zve.l0.s (k:Nat):Summ:=lp 50 { tmps:=[(0,.one (.bor (.int .i64))),(3,.one (.own 1)),(4,.one (.v (.int .i64)))],slots:=[(1,.arr false 243 Zci)],nb:=2 } [(.exit 0,{ tmps:=[(3,.one (.own 2))],slots:=[(2,.arr false 243 Zci)],nb:=3 })] (fun j x=>Zve.l0 j x.1 x.2.1 x.2.2) k
def Zve.l0.ok (k:Nat):=(lA (Zve.cok k):Zj Tryz.prog _ (.loop (cO (cO (cR (cL (cR (cR (cB Tryz.f283)))))))) (Zve.l0.s k))
theorem Zve.ok (k:Nat):Zf Tryz.prog 283 (Zve.con k):=fP (.two .auto (.two .auto (.two (.two .auto (.one (.sum (Zve.l0.s k)))) .auto))) (Zve.cok k) Tryz.func283 (sC (Zve.l0.ok k) sN)
def Zbc.l0:Nat→List Zjk→Int→Int→List Int→Option ((List Int))
 | 0,_,_,_,_=>none
 | j+1,a1,a2,a3,a4=>
  Ya (at? a1 a2) fun v5=>
  Ya (at? a1 a2) fun v6=>
  bif decide (a3<(Yb .i64 (v5.1+v6.2))) then
   Ya (at? a4 a3) fun v7=>
   Ya (at? a4 a3) fun v8=>
   Ya (at? a4 a3) fun v9=>
   Ya (at? a4 a3) fun v10=>
   Zbc.l0 j a1 a2 (Yb .i64 (a3+1)) (Yd a4 (Yc a3) (Yb .i64 (v8+1)))
  else
  some a4
def Zbc.l1 (k:Nat):Nat→List Zjk→Int→Int→List Int→List Int→Option ((Int×List Int×List Int) ⊕ (Int×List Int))
 | 0,_,_,_,_,_=>none
 | j+1,a1,a2,a3,a4,a5=>
  bif decide (a2<((a1.length):Int)) then
   Ya (at? a1 a2) fun v6=>
   bif decide (v6.2<1) then
    some (.inr (1,[]))
   else
   Ya (at? a1 a2) fun v7=>
   bif decide (24<v7.2) then
    some (.inr (1,[]))
   else
   Ya (at? a1 a2) fun v8=>
   bif decide (v8.1<0) then
    some (.inr (1,[]))
   else
   Ya (at? a1 a2) fun v9=>
   Ya (at? a1 a2) fun v10=>
   bif decide ((Yb .i64 (24-v10.2))<v9.1) then
    some (.inr (1,[]))
   else
   Ya (at? a1 a2) fun v11=>
   Ya (Zbc.l0 k a1 a2 v11.1 a4) fun y12=>
   Zbc.l1 k j a1 (Yb .i64 (a2+1)) a3 y12 a5
  else
  some (.inl (a3,a4,a5))
def Zbc.l2:Nat→Int→Int→List Int→List Int→List Int→Option ((Int×List Int×List Int) ⊕ (Int×List Int))
 | 0,_,_,_,_,_=>none
 | j+1,a1,a2,a3,a4,a5=>
  bif decide (a1<24) then
   Ya (at? a3 a1) fun v6=>
   Ya (at? a3 a1) fun v7=>
   bif decide (1<v7) then
    some (.inr (12,[]))
   else
   Ya (at? a3 a1) fun v8=>
   Ya (at? a3 a1) fun v9=>
   let e10:=Yb .i64 (a1+1)
   bif v9==1 then
    Ya (Zt 8 a4 [a1]) fun v11=>
    Zbc.l2 j e10 a2 a3 v11 a5
   else
   Zbc.l2 j e10 a2 a3 a4 a5
  else
  some (.inl (a2,a4,a5))
def Zbc (k:Nat) (a1:List Zjk):Option (List Int×Int):=
 bif decide (400<((a1.length):Int)) then
  some ([],2)
 else
 Ya (Zwg 8 24 24 0) fun v2=>
 Ya (Zbc.l1 k k a1 0 0 v2 []) fun
  | .inl y3=>
   Ya (Zbc.l2 k 0 y3.1 y3.2.1 [] y3.2.2) fun
    | .inl y4=>
     some (y4.2.1,0)
    | .inr y5=>
     some (y5.2,y5.1)
  | .inr y6=>
   some (y6.2,y6.1)
def Zbc.con (k:Nat):Con:=Sig.con { ps:=[.val false (.sl Zci) (ros (.sl Zci))],rs:=[.val true [.own 2 (.int .i64),.v (.int .i64)]],ntmps:=106 } (fun x=>Zbc k x)
def Zbc.cok (k:Nat):=cX cN
def Zbc.l0.s (k:Nat):Summ:=lp 106 { tmps:=[(0,.one (.bor Zci)),(3,.one (.own 4)),(4,.one (.v (.int .i64))),(5,.one (.v (.int .i64)))],slots:=[(4,.arr false 2 (.int .i64))],nb:=5 } [(.exit 2,{ tmps:=[(3,.one (.own 5))],slots:=[(5,.arr false 2 (.int .i64))],nb:=6 })] (fun j x=>Zbc.l0 j x.1 x.2.1 x.2.2.1 x.2.2.2) k
def Zbc.l0.ok (k:Nat):=(lA (Zbc.cok k):Zj Tryz.prog _ (.loop (cO (cO (cR (cR (cO (cL (cR (cO (cO (cR (cL (cR (cR (cR (cB Tryz.f284)))))))))))))))) (Zbc.l0.s k))
def Zbc.l1.s (k:Nat):Summ:=lp 106 { tmps:=[(0,.one (.bor Zci)),(2,.one (.ptr 0 0)),(3,.one (.own 2)),(4,.one (.v (.int .i64)))],slots:=[(0,.box 254 [.own 3,.v (.int .i64)]),(2,.arr false 2 (.int .i64)),(3,.arr false 2 (.int .i64))],nb:=4 } [(.exit 0,{ tmps:=[(3,.one (.own 4))],slots:=[(0,.box 254 [.own 5,.v (.int .i64)]),(4,.arr false 2 (.int .i64)),(5,.arr false 2 (.int .i64))],nb:=6 }),(.ret,{ tmps:=[],slots:=[(0,.box 254 [.own 4,.v (.int .i64)]),(4,.arr false 2 (.int .i64))],nb:=5 })] (fun j x=>Zbc.l1 k j x.1 x.2.1 x.2.2.1 x.2.2.2.1 x.2.2.2.2) k
def Zbc.l1.ok (k:Nat):=(lP (.two .auto (.two (.one (.two .auto (.two .auto (.one (.sum (Zbc.l0.s k)))))) .auto)) (Zbc.cok k) (sC (Zbc.l0.ok k) sN):Zj Tryz.prog _ (.loop (cO (cO (cR (cL (cR (cR (cR (cB Tryz.f284))))))))) (Zbc.l1.s k))
def Zbc.l2.s (k:Nat):Summ:=lp 106 { tmps:=[(2,.one (.ptr 0 0)),(3,.one (.own 7)),(6,.one (.own 8)),(7,.one (.v (.int .i64)))],slots:=[(0,.box 254 [.own 9,.v (.int .i64)]),(7,.arr false 2 (.int .i64)),(8,.arr false 2 (.int .i64)),(9,.arr false 2 (.int .i64))],nb:=10 } [(.exit 4,{ tmps:=[(6,.one (.own 10))],slots:=[(0,.box 254 [.own 11,.v (.int .i64)]),(10,.arr false 2 (.int .i64)),(11,.arr false 2 (.int .i64))],nb:=12 }),(.ret,{ tmps:=[],slots:=[(0,.box 254 [.own 10,.v (.int .i64)]),(10,.arr false 2 (.int .i64))],nb:=11 })] (fun j x=>Zbc.l2 j x.1 x.2.1 x.2.2.1 x.2.2.2.1 x.2.2.2.2) k
def Zbc.l2.ok (k:Nat):=(lA (Zbc.cok k):Zj Tryz.prog _ (.loop (cO (cO (cR (cL (cR (cR (cR (cR (cR (cB Tryz.f284))))))))))) (Zbc.l2.s k))
theorem Zbc.ok (k:Nat):Zf Tryz.prog 284 (Zbc.con k):=fP (.two .auto (.two .auto (.two .auto (.two (.two .auto (.one (.sum (Zbc.l1.s k)))) (.two .auto (.two (.two .auto (.one (.sum (Zbc.l2.s k)))) .auto)))))) (Zbc.cok k) Tryz.func284 (sC (Zbc.l1.ok k) (sC (Zbc.l2.ok k) sN))
def Zmq (a1:Int) (a2:Int):Option (Int):=
 bif decide (a2<a1) then
  some a1
 else
 some a2
def Zmq.con (k:Nat):Con:=Sig.con { ps:=[.val false (.int .i64) (ros (.int .i64)),.val false (.int .i64) (ros (.int .i64))],rs:=[.val false [.v (.int .i64)]],ntmps:=10 } (fun x=>Zmq x.1 x.2)
theorem Zmq.ok (k:Nat):Zf Tryz.prog 285 (Zmq.con k):=fA (cX cN) Tryz.func285
def Z2c.l0 (k:Nat):Nat→Int→Int→Int→List Zjk→List Int→Option ((Int×List Int) ⊕ (List Int×Int))
 | 0,_,_,_,_,_=>none
 | j+1,a1,a2,a3,a4,a5=>
  bif decide (a2<((a4.length):Int)) then
   Ya (at? a4 a2) fun v6=>
   Ya (at? a4 a2) fun v7=>
   bif decide (a1≤v7.2) then
    Ya (at? a4 a2) fun v8=>
    Ya (at? a4 a2) fun v9=>
    Ya (Zmq 1 a1) fun v10=>
    Ya (Zbc k [(v9.1,v10)]) fun v11=>
    Ya (Z9b v11.1 0 a1) fun v12=>
    some (.inr (v12,0))
   else
   Z2c.l0 k j a1 (Yb .i64 (a2+1)) a3 a4 a5
  else
  some (.inl (a3,a5))
def Z2c (k:Nat) (a1:List Int) (a2:List Int) (a3:Int):Option (List Int×Int):=
 Ya (Z5d k a1 a2) fun v4=>
 bif decide (((v4.length):Int)<a3) then
  some ([],11)
 else
 Ya (Zve k v4) fun v5=>
 Ya (Z2c.l0 k k a3 0 0 v5 []) fun
  | .inl y6=>
   Ya (Z9b v4 0 a3) fun v7=>
   some (v7,0)
  | .inr y8=>
   some (y8.1,y8.2)
def Z2c.con (k:Nat):Con:=Sig.con { ps:=[.val false (.sl (.int .i64)) (ros (.sl (.int .i64))),.val false (.sl (.int .i64)) (ros (.sl (.int .i64))),.val false (.int .i64) (ros (.int .i64))],rs:=[.val true [.v (.sl (.int .i64)),.v (.int .i64)]],ntmps:=51 } (fun x=>Z2c k x.1 x.2.1 x.2.2)
def Z2c.cok (k:Nat):=cX (cC (Z5d.ok k) (cC (Zve.ok k) (cC (Zbc.ok k) (cC (Zmq.ok k) cN))))
def Z2c.l0.s (k:Nat):Summ:=lp 51 { tmps:=[(2,.one (.v (.int .i64))),(6,.one (.ptr 0 0)),(8,.one (.own 3)),(9,.one (.v (.int .i64)))],slots:=[(0,.box 254 [.own 4,.v (.int .i64)]),(3,.arr false 243 Zci),(4,.arr false 2 (.int .i64))],nb:=5 } [(.exit 0,{ tmps:=[],slots:=[(0,.box 254 [.own 5,.v (.int .i64)]),(5,.arr false 2 (.int .i64))],nb:=6 }),(.ret,{ tmps:=[],slots:=[(0,.box 254 [.v (.sl (.int .i64)),.v (.int .i64)])],nb:=5 })] (fun j x=>Z2c.l0 k j x.1 x.2.1 x.2.2.1 x.2.2.2.1 x.2.2.2.2) k
def Z2c.l0.ok (k:Nat):=(lA (Z2c.cok k):Zj Tryz.prog _ (.loop (cO (cO (cR (cL (cR (cR (cR (cR (cB Tryz.f237)))))))))) (Z2c.l0.s k))
theorem Z2c.ok (k:Nat):Zf Tryz.prog 237 (Z2c.con k):=fP (.two .auto (.two .auto (.two .auto (.two .auto (.two (.two .auto (.one (.sum (Z2c.l0.s k)))) .auto))))) (Z2c.cok k) Tryz.func237 (sC (Z2c.l0.ok k) sN)
def Zxe.l0:Nat→Int→List Str→List Zr→Int→List Int→Int→Str→Int→List Z5c→List Int→Option ((List Int×Int×Str×Int×List Z5c×List Int))
 | 0,_,_,_,_,_,_,_,_,_,_=>none
 | j+1,a1,a2,a3,a4,a5,a6,a7,a8,a9,a10=>
  bif decide (a4<((a5.length):Int)) then
   Ya (at? a5 a4) fun v11=>
   Ya (Zzg (a1,(a2,a3)) v11) fun v12=>
   Ya (Zt 32 a9 ([(false,(v12,[]))])) fun v13=>
   Zxe.l0 j a1 a2 a3 (Yb .i64 (a4+1)) a5 a6 a7 a8 v13 a10
  else
  some (a5,a6,a7,a8,a9,a10)
def Zxe (k:Nat) (a1:G28) (a2:G46) (a3:G54):Option (List Z5c×Str×List Int×Int):=
 bif a2.1 != 1 then
  Ya (Zhg 10) fun v4=>
  some (v4.1,v4.2.1,v4.2.2.1,v4.2.2.2)
 else
 Ya (Z2c k a2.2.2.2.2.2.2.1 [] (Yb .i64 (a3.2.1+a3.2.2.1))) fun v5=>
 bif v5.2 != 0 then
  Ya (Zhg v5.2) fun v6=>
  some (v6.1,v6.2.1,v6.2.2.1,v6.2.2.2)
 else
 Ya (Zxe.l0 k a1.1 a1.2.1 a1.2.2 0 v5.1 v5.2 [] 0 [] []) fun y7=>
 Ya (Zt 32 y7.2.2.2.2.1 ([(true,(0,[]))])) fun v8=>
 Ya (Zye k a1 (2,(0,(a3.2.1,(a3.2.2.1,(0,(a3.2.2.2.1,(a2.2.2.2.2.2.2.1,y7.1)))))))) fun v9=>
 Ya (Zt 32 v8 v9) fun v10=>
 some (v10,y7.2.2.1,y7.2.2.2.2.2,y7.2.2.2.1)
def Zxe.con (k:Nat):Con:=Sig.con { ps:=[.val true T28 (ros T28),.val true T46 (ros T46),.val true T54 (ros T54)],rs:=[.val true [.own 151 Zjc,.v .str,.own 2 (.int .i64),.v (.int .i64)]],ntmps:=75 } (fun x=>Zxe k x.1 x.2.1 x.2.2)
def Zxe.cok (k:Nat):=cXr true false (cC (Zhg.ok k) (cC (Zye.ok k) (cC (Z2c.ok k) (cC (Zzg.ok k) cN))))
def Zxe.l0.s (k:Nat):Summ:=lp 75 { tmps:=[(3,.eptr [.v (.int .i64),.bor .str,.bor Zp]),(7,.one (.ptr 2 0)),(8,.one (.ptr 3 0)),(9,.one (.v (.int .i64)))],slots:=[(2,.box 254 [.v (.sl (.int .i64)),.v (.int .i64)]),(3,.box 121 [.own 4,.v .str,.own 5,.v (.int .i64)]),(4,.arr false 151 Zjc),(5,.arr false 2 (.int .i64))],nb:=6 } [(.exit 0,{ tmps:=[],slots:=[(2,.box 254 [.v (.sl (.int .i64)),.v (.int .i64)]),(3,.box 121 [.own 6,.v .str,.own 7,.v (.int .i64)]),(6,.arr false 151 Zjc),(7,.arr false 2 (.int .i64))],nb:=8 })] (fun j x=>Zxe.l0 j x.1 x.2.1 x.2.2.1 x.2.2.2.1 x.2.2.2.2.1 x.2.2.2.2.2.1 x.2.2.2.2.2.2.1 x.2.2.2.2.2.2.2.1 x.2.2.2.2.2.2.2.2.1 x.2.2.2.2.2.2.2.2.2) k
def Zxe.l0.ok (k:Nat):=(lA (Zxe.cok k):Zj Tryz.prog _ (.loop (cO (cO (cR (cL (cR (cR (cR (cR (cR (cB Tryz.f229))))))))))) (Zxe.l0.s k))
theorem Zxe.ok (k:Nat):Zf Tryz.prog 229 (Zxe.con k):=fP (.two .auto (.two .auto (.two .auto (.two .auto (.two .auto (.two (.two .auto (.one (.sum (Zxe.l0.s k)))) .auto)))))) (Zxe.cok k) Tryz.func229 (sC (Zxe.l0.ok k) sN)
def Zrq (k:Nat) (a1:G28) (a2:G46) (a3:G54):Option (List Z5c×Str×List Int×Int):=
 bif a2.1 != 2 then
  Ya (Zhg 10) fun v4=>
  some (v4.1,v4.2.1,v4.2.2.1,v4.2.2.2)
 else
 Ya (Zic k a1 a2) fun v5=>
 bif decide (a2.2.2.1≤((v5.length):Int)) then
  Ya (Zhg 9) fun v6=>
  some (v6.1,v6.2.1,v6.2.2.1,v6.2.2.2)
 else
 Ya (Zt 40 [] v5) fun v7=>
 Ya (Zt 40 v7 [a3.2.2.2.2]) fun v8=>
 Ya (Zs k v8 a1.1) fun v9=>
 bif v9 != 0 then
  Ya (Zhg v9) fun v10=>
  some (v10.1,v10.2.1,v10.2.2.1,v10.2.2.2)
 else
 Ya (at? a2.2.2.2.2.2.2.2 (Yb .i64 (a2.2.2.2.1+((v5.length):Int)))) fun v11=>
 Ya (Zzg a1 v11) fun v12=>
 Ya (Z0k k ((v5.length):Int) a3.2.2.2.2) fun v13=>
 let e14:=[(false,(v12,v13))]
 bif a3.2.2.2.2.1==5 then
  Ya (Zt 32 e14 ([(true,(0,[]))])) fun v15=>
  some (v15,[],[],0)
 else
 some (e14,[],[],0)
def Zrq.con (k:Nat):Con:=Sig.con { ps:=[.val true T28 (ros T28),.val true T46 (ros T46),.val true T54 (ros T54)],rs:=[.val true [.own 151 Zjc,.v .str,.own 2 (.int .i64),.v (.int .i64)]],ntmps:=67 } (fun x=>Zrq k x.1 x.2.1 x.2.2)
theorem Zrq.ok (k:Nat):Zf Tryz.prog 230 (Zrq.con k):=fA (cXr true false (cC (Zs.ok k) (cC (Zhg.ok k) (cC (Zic.ok k) (cC (Zzg.ok k) (cC (Z0k.ok k) cN)))))) Tryz.func230
def Z9t:Option (List Int):=
 some ([1779033703,3144134277,1013904242,2773480762,1359893119,2600822924,528734635,1541459225])
def Z9t.con (k:Nat):Con:=Sig.con { ps:=[],rs:=[.val false [.own 2 (.int .i64)]],ntmps:=2 } (fun x=>Z9t )
theorem Z9t.ok (k:Nat):Zf Tryz.prog 252 (Z9t.con k):=fA (cX cN) Tryz.func252
def Z6h (a1:Int) (a2:Int):Option (Int):=
 Ya (Zvb a2) fun v3=>
 let e4:=Yb .u64 (32-a2)
 Ya (Zvb e4) fun v5=>
 some (intBits .or .u32 (shr .u32 a1 a2) (shl .u32 a1 e4))
def Z6h.con (k:Nat):Con:=Sig.con { ps:=[.val false (.int .u32) (ros (.int .u32)),.val false (.int .u64) (ros (.int .u64))],rs:=[.val false [.v (.int .u32)]],ntmps:=13 } (fun x=>Z6h x.1 x.2)
theorem Z6h.ok (k:Nat):Zf Tryz.prog 290 (Z6h.con k):=fA (cX cN) Tryz.func290
def Zas:Option (List Int):=
 some ([1116352408,1899447441,3049323471,3921009573,961987163,1508970993,2453635748,2870763221,3624381080,310598401,607225278,1426881987,1925078388,2162078206,2614888103,3248222580,3835390401,4022224774,264347078,604807628,770255983,1249150122,1555081692,1996064986,2554220882,2821834349,2952996808,3210313671,3336571891,3584528711,113926993,338241895,666307205,773529912,1294757372,1396182291,1695183700,1986661051,2177026350,2456956037,2730485921,2820302411,3259730800,3345764771,3516065817,3600352804,4094571909,275423344,430227734,506948616,659060556,883997877,958139571,1322822218,1537002063,1747873779,1955562222,2024104815,2227730452,2361852424,2428436474,2756734187,3204031479,3329325298])
def Zas.con (k:Nat):Con:=Sig.con { ps:=[],rs:=[.val false [.own 297 (.int .u32)]],ntmps:=2 } (fun x=>Zas )
theorem Zas.ok (k:Nat):Zf Tryz.prog 291 (Zas.con k):=fA (cX cN) Tryz.func291
def Z7.l0:Nat→Str→Int→List Int→Option ((List Int))
 | 0,_,_,_=>none
 | j+1,a1,a2,a3=>
  bif decide (a2<16) then
   let e4:=Yb .i64 (4*a2)
   Ya (at? a1 e4) fun v5=>
   Ya (Zvb 24) fun v6=>
   Ya (at? a1 (Yb .i64 (e4+1))) fun v7=>
   Ya (Zvb 16) fun v8=>
   Ya (at? a1 (Yb .i64 (e4+2))) fun v9=>
   Ya (Zvb 8) fun v10=>
   Ya (at? a1 (Yb .i64 (e4+3))) fun v11=>
   Ya (at? a3 a2) fun v12=>
   Ya (at? a3 a2) fun v13=>
   Z7.l0 j a1 (Yb .i64 (a2+1)) (Yd a3 (Yc a2) (intBits .or .u32 (intBits .or .u32 (intBits .or .u32 (shl .u32 (Yb .u32 (v5.toNat:Int)) 24) (shl .u32 (Yb .u32 (v7.toNat:Int)) 16)) (shl .u32 (Yb .u32 (v9.toNat:Int)) 8)) (Yb .u32 (v11.toNat:Int))))
  else
  some a3
def Z7.l1:Nat→Int→List Int→Option ((List Int))
 | 0,_,_=>none
 | j+1,a1,a2=>
  bif decide (a1<64) then
   let e3:=at? a2 (Yb .i64 (a1-15))
   Ya (e3) fun v4=>
   Ya (e3) fun v5=>
   let e6:=at? a2 (Yb .i64 (a1-2))
   Ya (e6) fun v7=>
   Ya (e6) fun v8=>
   let e9:=at? a2 (Yb .i64 (a1-16))
   Ya (e9) fun v10=>
   Ya (e9) fun v11=>
   Ya (Z6h v5 7) fun v12=>
   Ya (Z6h v5 18) fun v13=>
   Ya (Zvb 3) fun v14=>
   let e15:=at? a2 (Yb .i64 (a1-7))
   Ya (e15) fun v16=>
   Ya (e15) fun v17=>
   Ya (Z6h v8 17) fun v18=>
   Ya (Z6h v8 19) fun v19=>
   Ya (Zvb 10) fun v20=>
   Ya (at? a2 a1) fun v21=>
   Ya (at? a2 a1) fun v22=>
   Z7.l1 j (Yb .i64 (a1+1)) (Yd a2 (Yc a1) (Yb .u32 ((Yb .u32 ((Yb .u32 (v11+(intBits .xor .u32 (intBits .xor .u32 v12 v13) (shr .u32 v5 3))))+v17))+(intBits .xor .u32 (intBits .xor .u32 v18 v19) (shr .u32 v8 10)))))
  else
  some a2
def Z7.l2:Nat→Int→Int→Int→Int→Int→Int→Int→Int→Int→List Int→List Int→Option ((Int×Int×Int×Int×Int×Int×Int×Int))
 | 0,_,_,_,_,_,_,_,_,_,_,_=>none
 | j+1,a1,a2,a3,a4,a5,a6,a7,a8,a9,a10,a11=>
  bif decide (a9<64) then
   Ya (Z6h a5 6) fun v12=>
   Ya (Z6h a5 11) fun v13=>
   Ya (Z6h a5 25) fun v14=>
   Ya (at? a11 a9) fun v15=>
   Ya (at? a11 a9) fun v16=>
   Ya (at? a10 a9) fun v17=>
   Ya (at? a10 a9) fun v18=>
   Ya (Z6h a1 2) fun v19=>
   Ya (Z6h a1 13) fun v20=>
   Ya (Z6h a1 22) fun v21=>
   let e22:=Yb .u32 ((Yb .u32 ((Yb .u32 ((Yb .u32 (a8+(intBits .xor .u32 (intBits .xor .u32 v12 v13) v14)))+(intBits .xor .u32 (intBits .and .u32 a5 a6) (intBits .and .u32 (intBits .xor .u32 (IntKind.max .u32) a5) a7))))+v16))+v18)
   Z7.l2 j (Yb .u32 (e22+(Yb .u32 ((intBits .xor .u32 (intBits .xor .u32 v19 v20) v21)+(intBits .xor .u32 (intBits .xor .u32 (intBits .and .u32 a1 a2) (intBits .and .u32 a1 a3)) (intBits .and .u32 a2 a3)))))) a1 a2 a3 (Yb .u32 (a4+e22)) a5 a6 a7 (Yb .i64 (a9+1)) a10 a11
  else
  some (a1,a2,a3,a4,a5,a6,a7,a8)
def Z7.l3:Nat→List Int→Int→List Int→List Int→Option ((List Int))
 | 0,_,_,_,_=>none
 | j+1,a1,a2,a3,a4=>
  bif decide (a2<8) then
   Ya (at? a1 a2) fun v5=>
   Ya (at? a3 a2) fun v6=>
   Ya (at? a3 a2) fun v7=>
   Ya (Zt 8 a4 [(Yb .i64 (Yb .u32 ((Yb .u32 v5)+v7)))]) fun v8=>
   Z7.l3 j a1 (Yb .i64 (a2+1)) a3 v8
  else
  some a4
def Z7 (k:Nat) (a1:List Int) (a2:Str):Option (List Int):=
 Ya (Zwg 4 64 64 0) fun v3=>
 Ya (Z7.l0 k a2 0 v3) fun y4=>
 Ya (Z7.l1 k 16 y4) fun y5=>
 Ya (at? a1 0) fun v6=>
 Ya (at? a1 1) fun v7=>
 Ya (at? a1 2) fun v8=>
 Ya (at? a1 3) fun v9=>
 Ya (at? a1 4) fun v10=>
 Ya (at? a1 5) fun v11=>
 Ya (at? a1 6) fun v12=>
 Ya (at? a1 7) fun v13=>
 Ya (Zas ) fun v14=>
 Ya (Z7.l2 k (Yb .u32 v6) (Yb .u32 v7) (Yb .u32 v8) (Yb .u32 v9) (Yb .u32 v10) (Yb .u32 v11) (Yb .u32 v12) (Yb .u32 v13) 0 y5 v14) fun y15=>
 Ya (Z7.l3 k a1 0 [y15.1,y15.2.1,y15.2.2.1,y15.2.2.2.1,y15.2.2.2.2.1,y15.2.2.2.2.2.1,y15.2.2.2.2.2.2.1,y15.2.2.2.2.2.2.2] []) fun y16=>
 some y16
def Z7.con (k:Nat):Con:=Sig.con { ps:=[.val false (.sl (.int .i64)) (ros (.sl (.int .i64))),.val false .str (ros .str)],rs:=[.val false [.own 2 (.int .i64)]],ntmps:=235 } (fun x=>Z7 k x.1 x.2)
def Z7.cok (k:Nat):=cX (cC (Z6h.ok k) (cC (Zas.ok k) cN))
def Z7.l0.s (k:Nat):Summ:=lp 235 { tmps:=[(1,.one (.v .str)),(5,.one (.own 1)),(6,.one (.v (.int .i64)))],slots:=[(1,.arr false 297 (.int .u32))],nb:=2 } [(.exit 0,{ tmps:=[(5,.one (.own 2))],slots:=[(2,.arr false 297 (.int .u32))],nb:=3 })] (fun j x=>Z7.l0 j x.1 x.2.1 x.2.2) k
def Z7.l0.ok (k:Nat):=(lA (Z7.cok k):Zj Tryz.prog _ (.loop (cO (cO (cR (cL (cR (cR (cB Tryz.f253)))))))) (Z7.l0.s k))
def Z7.l1.s (k:Nat):Summ:=lp 235 { tmps:=[(5,.one (.own 3)),(7,.one (.v (.int .i64)))],slots:=[(3,.arr false 297 (.int .u32))],nb:=4 } [(.exit 2,{ tmps:=[(5,.one (.own 4))],slots:=[(4,.arr false 297 (.int .u32))],nb:=5 })] (fun j x=>Z7.l1 j x.1 x.2) k
def Z7.l1.ok (k:Nat):=(lA (Z7.cok k):Zj Tryz.prog _ (.loop (cO (cO (cR (cL (cR (cR (cR (cB Tryz.f253))))))))) (Z7.l1.s k))
def Z7.l2.s (k:Nat):Summ:=lp 235 { tmps:=[(5,.one (.own 6)),(10,.one (.v (.int .u32))),(11,.one (.v (.int .u32))),(12,.one (.v (.int .u32))),(13,.one (.v (.int .u32))),(14,.one (.v (.int .u32))),(15,.one (.v (.int .u32))),(16,.one (.v (.int .u32))),(17,.one (.v (.int .u32))),(18,.one (.own 7)),(19,.one (.v (.int .i64)))],slots:=[(6,.arr false 297 (.int .u32)),(7,.arr false 297 (.int .u32))],nb:=8 } [(.exit 4,{ tmps:=[(10,.one (.v (.int .u32))),(11,.one (.v (.int .u32))),(12,.one (.v (.int .u32))),(13,.one (.v (.int .u32))),(14,.one (.v (.int .u32))),(15,.one (.v (.int .u32))),(16,.one (.v (.int .u32))),(17,.one (.v (.int .u32)))],slots:=[],nb:=8 })] (fun j x=>Z7.l2 j x.1 x.2.1 x.2.2.1 x.2.2.2.1 x.2.2.2.2.1 x.2.2.2.2.2.1 x.2.2.2.2.2.2.1 x.2.2.2.2.2.2.2.1 x.2.2.2.2.2.2.2.2.1 x.2.2.2.2.2.2.2.2.2.1 x.2.2.2.2.2.2.2.2.2.2) k
def Z7.l2.ok (k:Nat):=(lA (Z7.cok k):Zj Tryz.prog _ (.loop (cO (cO (cR (cL (cR (cR (cR (cR (cR (cR (cR (cB Tryz.f253))))))))))))) (Z7.l2.s k))
def Z7.l3.s (k:Nat):Summ:=lp 235 { tmps:=[(0,.one (.bor (.int .i64))),(22,.one (.own 10)),(23,.one (.own 11)),(24,.one (.v (.int .i64)))],slots:=[(10,.arr false 297 (.int .u32)),(11,.arr false 2 (.int .i64))],nb:=12 } [(.exit 6,{ tmps:=[(23,.one (.own 12))],slots:=[(12,.arr false 2 (.int .i64))],nb:=13 })] (fun j x=>Z7.l3 j x.1 x.2.1 x.2.2.1 x.2.2.2) k
def Z7.l3.ok (k:Nat):=(lA (Z7.cok k):Zj Tryz.prog _ (.loop (cO (cO (cR (cL (cR (cR (cR (cR (cR (cR (cR (cR (cR (cR (cB Tryz.f253)))))))))))))))) (Z7.l3.s k))
theorem Z7.ok (k:Nat):Zf Tryz.prog 253 (Z7.con k):=fP (.two .auto (.two .auto (.two (.two .auto (.one (.sum (Z7.l0.s k)))) (.two (.two .auto (.one (.sum (Z7.l1.s k)))) (.two .auto (.two .auto (.two .auto (.two (.two .auto (.one (.sum (Z7.l2.s k)))) (.two .auto (.two .auto (.two (.two .auto (.one (.sum (Z7.l3.s k)))) .auto))))))))))) (Z7.cok k) Tryz.func253 (sC (Z7.l0.ok k) (sC (Z7.l1.ok k) (sC (Z7.l2.ok k) (sC (Z7.l3.ok k) sN))))
def Z4.l0:Nat→List Int→Option ((List Int))
 | 0,_=>none
 | j+1,a1=>
  Ya (nz? 64) fun v2=>
  bif (Int.tmod ((a1.length):Int) 64) != 56 then
   Ya (Zt 1 a1 [0]) fun v3=>
   Z4.l0 j v3
  else
  some a1
def Z4.l1:Nat→Int→Int→List Int→Option ((List Int))
 | 0,_,_,_=>none
 | j+1,a1,a2,a3=>
  bif decide (0≤a2) then
   Ya (Zvb (Yb .u64 a2)) fun v4=>
   Ya (Zt 1 a3 [(Yb .u8 (shr .u64 a1 (Yb .u64 a2)))]) fun v5=>
   Z4.l1 j a1 (Yb .i64 (a2-8)) v5
  else
  some a3
def Z4.l2 (k:Nat):Nat→List Int→Int→List Int→Option ((List Int))
 | 0,_,_,_=>none
 | j+1,a1,a2,a3=>
  bif decide (a2<((a1.length):Int)) then
   let e4:=Yb .i64 (a2+64)
   Ya (Z9b a1 a2 e4) fun v5=>
   Ya (Z7 k a3 (Znb v5)) fun v6=>
   Z4.l2 k j a1 e4 v6
  else
  some a3
def Z4.l3:Nat→Int→List Int→List Int→Option ((List Int))
 | 0,_,_,_=>none
 | j+1,a1,a2,a3=>
  bif decide (a1<8) then
   Ya (at? a2 a1) fun v4=>
   Ya (at? a2 a1) fun v5=>
   Ya (Zvb 24) fun v6=>
   Ya (Zvb 16) fun v7=>
   Ya (Zvb 8) fun v8=>
   Ya (Zt 1 a3 [(Yb .u8 (shr .i64 v5 24)),(Yb .u8 (shr .i64 v5 16)),(Yb .u8 (shr .i64 v5 8)),(Yb .u8 v5)]) fun v9=>
   Z4.l3 j (Yb .i64 (a1+1)) a2 v9
  else
  some a3
def Z4 (k:Nat) (a1:Str):Option (Str):=
 Ya (Zkw (a1.length) 1) fun v2=>
 Ya (Zt 1 (Zgb a1) [128]) fun v3=>
 Ya (Z4.l0 k v3) fun y4=>
 Ya (Z4.l1 k (Yb .u64 (Yb .i64 (8*((a1.length):Int)))) 56 y4) fun y5=>
 Ya (Z9t ) fun v6=>
 Ya (Z4.l2 k k y5 0 v6) fun y7=>
 Ya (Z4.l3 k 0 y7 []) fun y8=>
 some (Znb y8)
def Z4.con (k:Nat):Con:=Sig.con { ps:=[.val false .str (ros .str)],rs:=[.val false [.v .str]],ntmps:=78 } (fun x=>Z4 k x)
def Z4.cok (k:Nat):=cX (cC (Z9t.ok k) (cC (Z7.ok k) cN))
def Z4.l0.s (k:Nat):Summ:=lp 78 { tmps:=[(3,.one (.own 3))],slots:=[(3,.arr true 5 (.int .u8))],nb:=4 } [(.exit 0,{ tmps:=[(3,.one (.own 4))],slots:=[(4,.arr true 5 (.int .u8))],nb:=5 })] (fun j x=>Z4.l0 j x) k
def Z4.l0.ok (k:Nat):=(lA (Z4.cok k):Zj Tryz.prog _ (.loop (cO (cO (cL (cR (cR (cB Tryz.f183))))))) (Z4.l0.s k))
def Z4.l1.s (k:Nat):Summ:=lp 78 { tmps:=[(3,.one (.own 5)),(4,.one (.v (.int .u64))),(5,.one (.v (.int .i64)))],slots:=[(5,.arr true 5 (.int .u8))],nb:=6 } [(.exit 2,{ tmps:=[(3,.one (.own 6))],slots:=[(6,.arr true 5 (.int .u8))],nb:=7 })] (fun j x=>Z4.l1 j x.1 x.2.1 x.2.2) k
def Z4.l1.ok (k:Nat):=(lA (Z4.cok k):Zj Tryz.prog _ (.loop (cO (cO (cR (cL (cR (cR (cR (cR (cB Tryz.f183)))))))))) (Z4.l1.s k))
def Z4.l2.s (k:Nat):Summ:=lp 78 { tmps:=[(3,.one (.v (.sl (.int .u8)))),(6,.one (.own 8)),(7,.one (.v (.int .i64)))],slots:=[(8,.arr false 2 (.int .i64))],nb:=9 } [(.exit 4,{ tmps:=[(6,.one (.own 9))],slots:=[(9,.arr false 2 (.int .i64))],nb:=10 })] (fun j x=>Z4.l2 k j x.1 x.2.1 x.2.2) k
def Z4.l2.ok (k:Nat):=(lA (Z4.cok k):Zj Tryz.prog _ (.loop (cO (cO (cR (cL (cR (cR (cR (cR (cR (cR (cB Tryz.f183)))))))))))) (Z4.l2.s k))
def Z4.l3.s (k:Nat):Summ:=lp 78 { tmps:=[(6,.one (.own 11)),(8,.one (.own 12)),(9,.one (.v (.int .i64)))],slots:=[(11,.arr false 2 (.int .i64)),(12,.arr false 5 (.int .u8))],nb:=13 } [(.exit 6,{ tmps:=[(8,.one (.own 13))],slots:=[(13,.arr false 5 (.int .u8))],nb:=14 })] (fun j x=>Z4.l3 j x.1 x.2.1 x.2.2) k
def Z4.l3.ok (k:Nat):=(lA (Z4.cok k):Zj Tryz.prog _ (.loop (cO (cO (cR (cL (cR (cR (cR (cR (cR (cR (cR (cR (cB Tryz.f183)))))))))))))) (Z4.l3.s k))
theorem Z4.ok (k:Nat):Zf Tryz.prog 183 (Z4.con k):=fP (.two .auto (.two .auto (.two (.one (.sum (Z4.l0.s k))) (.two .auto (.two (.two .auto (.one (.sum (Z4.l1.s k)))) (.two .auto (.two (.two .auto (.one (.sum (Z4.l2.s k)))) (.two .auto (.two (.two .auto (.one (.sum (Z4.l3.s k)))) .auto))))))))) (Z4.cok k) Tryz.func183 (sC (Z4.l0.ok k) (sC (Z4.l1.ok k) (sC (Z4.l2.ok k) (sC (Z4.l3.ok k) sN))))
def Z8r (k:Nat) (a1:Str):Option (Str):=
 bif decide (8000<((a1.length):Int)) then
  some ([])
 else
 Ya (Z4 k a1) fun v2=>
 some v2
def Z8r.con (k:Nat):Con:=Sig.con { ps:=[.val false .str (ros .str)],rs:=[.val false [.v .str]],ntmps:=8 } (fun x=>Z8r k x)
theorem Z8r.ok (k:Nat):Zf Tryz.prog 90 (Z8r.con k):=fA (cX (cC (Z4.ok k) cN)) Tryz.func90
end Go.Proofs.Qz
namespace Go.Proofs.Qz
open Go Go.RowKit
set_option linter.unusedVariables false
set_option linter.defProp false
def Zwe.l0:Nat→List Str→Str→Int→Option (Str)
 | 0,_,_,_=>none
 | j+1,a1,a2,a3=>
  bif decide (a3<((a1.length):Int)) then
   Ya (at? a1 a3) fun v4=>
   Ya (Zpc a2 v4) fun v5=>
   Zwe.l0 j a1 v5 (Yb .i64 (a3+1))
  else
  some a2
def Zwe (k:Nat) (a1:List Str):Option (Str):=
 Ya (Zwe.l0 k a1 [] 0) fun y2=>
 some y2
def Zwe.con (k:Nat):Con:=Sig.con { ps:=[.val false (.sl .str) (ros (.sl .str))],rs:=[.val false [.v .str]],ntmps:=18 } (fun x=>Zwe k x)
def Zwe.cok (k:Nat):=cX cN
def Zwe.l0.s (k:Nat):Summ:=lp 18 { tmps:=[(0,.one (.bor .str)),(3,.one (.v .str)),(4,.one (.v (.int .i64)))],slots:=[],nb:=0 } [(.exit 0,{ tmps:=[(3,.one (.v .str))],slots:=[],nb:=0 })] (fun j x=>Zwe.l0 j x.1 x.2.1 x.2.2) k
def Zwe.l0.ok (k:Nat):=(lA (Zwe.cok k):Zj Tryz.prog _ (.loop (cO (cO (cR (cL (cR (cR (cB Tryz.f91)))))))) (Zwe.l0.s k))
theorem Zwe.ok (k:Nat):Zf Tryz.prog 91 (Zwe.con k):=fP (.two .auto (.two .auto (.two (.two .auto (.one (.sum (Zwe.l0.s k)))) .auto))) (Zwe.cok k) Tryz.func91 (sC (Zwe.l0.ok k) sN)
def Z4n (k:Nat) (a1:List Str):Option (Str):=
 Ya (Zrc k a1) fun v2=>
 bif !v2 then
  some ([])
 else
 Ya (Zwe k a1) fun v3=>
 Ya (Z8r k v3) fun v4=>
 some v4
def Z4n.con (k:Nat):Con:=Sig.con { ps:=[.val false (.sl .str) (ros (.sl .str))],rs:=[.val false [.v .str]],ntmps:=9 } (fun x=>Z4n k x)
theorem Z4n.ok (k:Nat):Zf Tryz.prog 49 (Z4n.con k):=fA (cX (cC (Zrc.ok k) (cC (Z8r.ok k) (cC (Zwe.ok k) cN)))) Tryz.func49
def Zpj (a1:G46):Option (Int×Int×Int×Int×Int×Str×List Int×List Int):=
 Ya (Zt 8 [] a1.2.2.2.2.2.2.1) fun v2=>
 some (1,0,0,0,0,[],v2,[])
def Zpj.con (k:Nat):Con:=Sig.con { ps:=[.val true T46 (ros T46)],rs:=[.val true [.v (.int .i64),.v (.int .i64),.v (.int .i64),.v (.int .i64),.v (.int .i64),.v .str,.own 2 (.int .i64),.own 2 (.int .i64)]],ntmps:=8 } (fun x=>Zpj x)
theorem Zpj.ok (k:Nat):Zf Tryz.prog 233 (Zpj.con k):=fA (cXr true false cN) Tryz.func233
def Zoq (a1:Int):Option (List Str×Int):=
 some ([],a1)
def Zoq.con (k:Nat):Con:=Sig.con { ps:=[.val false (.int .i64) (ros (.int .i64))],rs:=[.val true [.own 9 .str,.v (.int .i64)]],ntmps:=5 } (fun x=>Zoq x)
theorem Zoq.ok (k:Nat):Zf Tryz.prog 315 (Zoq.con k):=fA (cX cN) Tryz.func315
def Zbs:Option (Str):=
 Ya (Zwg 1 8 8 0) fun v1=>
 some (Znb v1)
def Zbs.con (k:Nat):Con:=Sig.con { ps:=[],rs:=[.val false [.v .str]],ntmps:=3 } (fun x=>Zbs )
theorem Zbs.ok (k:Nat):Zf Tryz.prog 180 (Zbs.con k):=fA (cX cN) Tryz.func180
def Zwf.l0:Nat→Str→Str→Int→List Int→Option ((List Int))
 | 0,_,_,_,_=>none
 | j+1,a1,a2,a3,a4=>
  bif decide (a3<8) then
   Ya (at? a1 a3) fun v5=>
   Ya (at? a2 a3) fun v6=>
   Ya (at? a4 a3) fun v7=>
   Ya (at? a4 a3) fun v8=>
   Zwf.l0 j a1 a2 (Yb .i64 (a3+1)) (Yd a4 (Yc a3) (intBits .xor .u8 (v5.toNat:Int) (v6.toNat:Int)))
  else
  some a4
def Zwf (k:Nat) (a1:Str) (a2:Str):Option (Str):=
 bif (((a1.length):Int) != 8)||(((a2.length):Int) != 8) then
  some ([])
 else
 Ya (Zwg 1 8 8 0) fun v3=>
 Ya (Zwf.l0 k a1 a2 0 v3) fun y4=>
 some (Znb y4)
def Zwf.con (k:Nat):Con:=Sig.con { ps:=[.val false .str (ros .str),.val false .str (ros .str)],rs:=[.val false [.v .str]],ntmps:=32 } (fun x=>Zwf k x.1 x.2)
def Zwf.cok (k:Nat):=cX cN
def Zwf.l0.s (k:Nat):Summ:=lp 32 { tmps:=[(0,.one (.v .str)),(1,.one (.v .str)),(5,.one (.own 1)),(6,.one (.v (.int .i64)))],slots:=[(1,.arr false 5 (.int .u8))],nb:=2 } [(.exit 0,{ tmps:=[(5,.one (.own 2))],slots:=[(2,.arr false 5 (.int .u8))],nb:=3 })] (fun j x=>Zwf.l0 j x.1 x.2.1 x.2.2.1 x.2.2.2) k
def Zwf.l0.ok (k:Nat):=(lA (Zwf.cok k):Zj Tryz.prog _ (.loop (cO (cO (cR (cL (cR (cR (cR (cB Tryz.f182))))))))) (Zwf.l0.s k))
theorem Zwf.ok (k:Nat):Zf Tryz.prog 182 (Zwf.con k):=fP (.two .auto (.two .auto (.two .auto (.two (.two .auto (.one (.sum (Zwf.l0.s k)))) .auto)))) (Zwf.cok k) Tryz.func182 (sC (Zwf.l0.ok k) sN)
def Z6k (k:Nat) (a1:G52) (a2:Str):Option (Str):=
 bif a1.1==1 then
  Ya (Zbs ) fun v3=>
  some v3
 else
 bif a1.1==2 then
  some a1.2.2.2
 else
 bif a1.1==3 then
  some a2
 else
 Ya (Zwf k a2 a1.2.2.2) fun v4=>
 some v4
def Z6k.con (k:Nat):Con:=Sig.con { ps:=[.val true T52 (ros T52),.val false .str (ros .str)],rs:=[.val false [.v .str]],ntmps:=21 } (fun x=>Z6k k x.1 x.2)
theorem Z6k.ok (k:Nat):Zf Tryz.prog 305 (Z6k.con k):=fA (cX (cC (Zbs.ok k) (cC (Zwf.ok k) cN))) Tryz.func305
def Zff.l0 (k:Nat):Nat→List Str→List G52→Int→List Str→Option ((List Str))
 | 0,_,_,_,_=>none
 | j+1,a1,a2,a3,a4=>
  bif decide (a3<((a2.length):Int)) then
   Ya (at? a2 a3) fun v5=>
   let e6:=Yb .i64 (a3+1)
   bif v5.1 != 5 then
    Ya (at? a2 a3) fun v7=>
    Ya (at? a2 a3) fun v8=>
    Ya (at? a2 a3) fun v9=>
    Ya (at? a1 v9.2.2.1) fun v10=>
    Ya (Z6k k v8 v10) fun v11=>
    let e12:=at? a4 v7.2.1
    Ya (e12) fun v13=>
    Ya (e12) fun v14=>
    Zff.l0 k j a1 a2 e6 (Yd a4 (Yc v7.2.1) v11)
   else
   Zff.l0 k j a1 a2 e6 a4
  else
  some a4
def Zff (k:Nat) (a1:List Str) (a2:List G52):Option (List Str):=
 Ya (Zt 16 [] a1) fun v3=>
 Ya (Zff.l0 k k a1 a2 0 v3) fun y4=>
 some y4
def Zff.con (k:Nat):Con:=Sig.con { ps:=[.val false (.sl .str) (ros (.sl .str)),.val false (.sl T52) (ros (.sl T52))],rs:=[.val false [.own 9 .str]],ntmps:=43 } (fun x=>Zff k x.1 x.2)
def Zff.cok (k:Nat):=cX (cC (Z6k.ok k) cN)
def Zff.l0.s (k:Nat):Summ:=lp 43 { tmps:=[(0,.one (.bor .str)),(1,.one (.bor T52)),(5,.one (.own 2)),(6,.one (.v (.int .i64)))],slots:=[(2,.arr false 9 .str)],nb:=3 } [(.exit 0,{ tmps:=[(5,.one (.own 3))],slots:=[(3,.arr false 9 .str)],nb:=4 })] (fun j x=>Zff.l0 k j x.1 x.2.1 x.2.2.1 x.2.2.2) k
def Zff.l0.ok (k:Nat):=(lA (Zff.cok k):Zj Tryz.prog _ (.loop (cO (cO (cR (cL (cR (cR (cB Tryz.f316)))))))) (Zff.l0.s k))
theorem Zff.ok (k:Nat):Zf Tryz.prog 316 (Zff.con k):=fP (.two .auto (.two .auto (.two (.two .auto (.one (.sum (Zff.l0.s k)))) .auto))) (Zff.cok k) Tryz.func316 (sC (Zff.l0.ok k) sN)
def Z9r (k:Nat) (a1:List Str) (a2:List G52):Option (List Str×Int):=
 bif (decide (400<((a1.length):Int)))||(decide (400<((a2.length):Int))) then
  Ya (Zoq 2) fun v3=>
  some (v3.1,v3.2)
 else
 Ya (Zrc k a1) fun v4=>
 bif !v4 then
  Ya (Zoq 1) fun v5=>
  some (v5.1,v5.2)
 else
 Ya (Zs k a2 ((a1.length):Int)) fun v6=>
 bif v6 != 0 then
  Ya (Zoq v6) fun v7=>
  some (v7.1,v7.2)
 else
 Ya (Zff k a1 a2) fun v8=>
 some (v8,0)
def Z9r.con (k:Nat):Con:=Sig.con { ps:=[.val false (.sl .str) (ros (.sl .str)),.val false (.sl T52) (ros (.sl T52))],rs:=[.val true [.own 9 .str,.v (.int .i64)]],ntmps:=31 } (fun x=>Z9r k x.1 x.2)
theorem Z9r.ok (k:Nat):Zf Tryz.prog 302 (Z9r.con k):=fA (cX (cC (Zrc.ok k) (cC (Zs.ok k) (cC (Zoq.ok k) (cC (Zff.ok k) cN))))) Tryz.func302
def Z2m (k:Nat) (a1:List Str) (a2:List G52):Option (List Str×Int):=
 Ya (Z9r k a1 a2) fun v3=>
 some (v3.1,v3.2)
def Z2m.con (k:Nat):Con:=Sig.con { ps:=[.val false (.sl .str) (ros (.sl .str)),.val false (.sl T52) (ros (.sl T52))],rs:=[.val true [.own 9 .str,.v (.int .i64)]],ntmps:=8 } (fun x=>Z2m k x.1 x.2)
theorem Z2m.ok (k:Nat):Zf Tryz.prog 277 (Z2m.con k):=fA (cX (cC (Z9r.ok k) cN)) Tryz.func277
def Zqq (k:Nat) (a1:G28) (a2:G46):Option (List Z5c×Str×List Int×Int):=
 bif a2.1 != 2 then
  Ya (Zhg 10) fun v3=>
  some (v3.1,v3.2.1,v3.2.2.1,v3.2.2.2)
 else
 Ya (Zic k a1 a2) fun v4=>
 Ya (Z6d k a1) fun v5=>
 Ya (Z2m k v5 v4) fun v6=>
 Ya (Zpj a2) fun v7=>
 Ya (Zye k a1 v7) fun v8=>
 bif ((v4.length):Int) != a2.2.2.1 then
  some (v8,[],[],4)
 else
 bif v6.2 != 0 then
  some (v8,[],[],5)
 else
 Ya (Z4n k v6.1) fun v9=>
 bif !(v9==a2.2.2.2.2.2.1) then
  some (v8,[],[],5)
 else
 Ya (Znj k v4 a1.1) fun v10=>
 Ya (Zje k v10.1) fun v11=>
 bif decide (a2.2.2.2.1<v11) then
  some (v8,[],[],11)
 else
 Ya (Zoj a2) fun v12=>
 Ya (Zye k a1 (3,v12.2)) fun v13=>
 Ya (Zt 32 ([(true,(0,[]))]) v13) fun v14=>
 some (v14,[],[],0)
def Zqq.con (k:Nat):Con:=Sig.con { ps:=[.val true T28 (ros T28),.val true T46 (ros T46)],rs:=[.val true [.own 151 Zjc,.v .str,.own 2 (.int .i64),.v (.int .i64)]],ntmps:=68 } (fun x=>Zqq k x.1 x.2)
theorem Zqq.ok (k:Nat):Zf Tryz.prog 231 (Zqq.con k):=fA (cXr true false (cC (Zje.ok k) (cC (Znj.ok k) (cC (Z4n.ok k) (cC (Zhg.ok k) (cC (Z6d.ok k) (cC (Zoj.ok k) (cC (Zye.ok k) (cC (Zpj.ok k) (cC (Zic.ok k) (cC (Z2m.ok k) cN))))))))))) Tryz.func231
def Zqj (k:Nat) (a1:G28) (a2:G46):Option (List Zad):=
 Ya (Zic k a1 a2) fun v3=>
 Ya (Znj k v3 a1.1) fun v4=>
 some v4.1
def Zqj.con (k:Nat):Con:=Sig.con { ps:=[.val true T28 (ros T28),.val true T46 (ros T46)],rs:=[.val false [.own 139 Z4b]],ntmps:=12 } (fun x=>Zqj k x.1 x.2)
theorem Zqj.ok (k:Nat):Zf Tryz.prog 278 (Zqj.con k):=fA (cXr true false (cC (Znj.ok k) (cC (Zic.ok k) cN))) Tryz.func278
def Zld.l0:Nat→List Zad→Int→Int→Int→Option (Unit ⊕ Int)
 | 0,_,_,_,_=>none
 | j+1,a1,a2,a3,a4=>
  bif decide (a4<a2) then
   Ya (at? a1 a4) fun v5=>
   let e6:=Yb .i64 (a4+1)
   bif v5.1==1 then
    Ya (at? a1 a4) fun v7=>
    bif v7.2.2.1==a3 then
     Ya (at? a1 a4) fun v8=>
     some (.inr (v8.2.2.2))
    else
    Zld.l0 j a1 a2 a3 e6
   else
   Zld.l0 j a1 a2 a3 e6
  else
  some (.inl ())
def Zld (k:Nat) (a1:List Zad) (a2:Int) (a3:Int):Option (Int):=
 Ya (Zld.l0 k a1 a2 a3 0) fun
  | .inl y4=>
   some (-1)
  | .inr y5=>
   some y5
def Zld.con (k:Nat):Con:=Sig.con { ps:=[.val false (.sl Z4b) (ros (.sl Z4b)),.val false (.int .i64) (ros (.int .i64)),.val false (.int .i64) (ros (.int .i64))],rs:=[.val false [.v (.int .i64)]],ntmps:=33 } (fun x=>Zld k x.1 x.2.1 x.2.2)
def Zld.cok (k:Nat):=cX cN
def Zld.l0.s (k:Nat):Summ:=lp 33 { tmps:=[(0,.one (.bor Z4b)),(1,.one (.v (.int .i64))),(2,.one (.v (.int .i64))),(7,.one (.v (.int .i64)))],slots:=[],nb:=0 } [(.exit 0,{ tmps:=[],slots:=[],nb:=0 }),(.ret,{ tmps:=[(6,.one (.v (.int .i64)))],slots:=[],nb:=0 })] (fun j x=>Zld.l0 j x.1 x.2.1 x.2.2.1 x.2.2.2) k
def Zld.l0.ok (k:Nat):=(lA (Zld.cok k):Zj Tryz.prog _ (.loop (cO (cO (cR (cL (cR (cB Tryz.f303))))))) (Zld.l0.s k))
theorem Zld.ok (k:Nat):Zf Tryz.prog 303 (Zld.con k):=fP (.two .auto (.two (.two .auto (.one (.sum (Zld.l0.s k)))) .auto)) (Zld.cok k) Tryz.func303 (sC (Zld.l0.ok k) sN)
def Zpq (k:Nat) (a1:G28) (a2:G46) (a3:Int):Option (Str):=
 Ya (at? a2.2.2.2.2.2.2.2 a3) fun v4=>
 Ya (Zzg a1 v4) fun v5=>
 Ya (Zsb k a1.2 v5) fun v6=>
 some v6
def Zpq.con (k:Nat):Con:=Sig.con { ps:=[.val true T28 (ros T28),.val true T46 (ros T46),.val false (.int .i64) (ros (.int .i64))],rs:=[.val false [.v .str]],ntmps:=17 } (fun x=>Zpq k x.1 x.2.1 x.2.2)
theorem Zpq.ok (k:Nat):Zf Tryz.prog 304 (Zpq.con k):=fA (cXr true false (cC (Zsb.ok k) (cC (Zzg.ok k) cN))) Tryz.func304
def Z5m (k:Nat) (a1:G28) (a2:G46) (a3:List Zad) (a4:G52):Option (Str):=
 bif (a4.1==3)||(a4.1==4) then
  Ya (Zsb k a1.2 (Yb .i64 (3+a4.2.2.1))) fun v5=>
  Ya (Zld k a3 a2.2.2.2.2.1 a4.2.2.1) fun v6=>
  bif decide (0≤v6) then
   Ya (Zpq k a1 a2 v6) fun v7=>
   Ya (Z6k k a4 v7) fun v8=>
   some v8
  else
  Ya (Z6k k a4 v5) fun v9=>
  some v9
 else
 Ya (Z6k k a4 []) fun v10=>
 some v10
def Z5m.con (k:Nat):Con:=Sig.con { ps:=[.val true T28 (ros T28),.val true T46 (ros T46),.val false (.sl Z4b) (ros (.sl Z4b)),.val true T52 (ros T52)],rs:=[.val false [.v .str]],ntmps:=40 } (fun x=>Z5m k x.1 x.2.1 x.2.2.1 x.2.2.2)
theorem Z5m.ok (k:Nat):Zf Tryz.prog 279 (Z5m.con k):=fA (cXr true false (cC (Zsb.ok k) (cC (Zld.ok k) (cC (Zpq.ok k) (cC (Z6k.ok k) cN))))) Tryz.func279
def Zul (k:Nat) (a1:Int) (a2:Int) (a3:Str):Option (Str):=
 Ya (Zfb a1 0 1000000) fun v4=>
 bif !v4 then
  some ([])
 else
 Ya (Zfb a2 0 39) fun v5=>
 bif (!v5)||(((a3.length):Int) != 8) then
  some ([])
 else
 Ya (Z6b k a1) fun v6=>
 Ya (Z6b k a2) fun v7=>
 Ya (Zpc v6 v7) fun v8=>
 Ya (Zxi k a3) fun v9=>
 Ya (Zpc v8 v9) fun v10=>
 Ya (Z2k k v10) fun v11=>
 some v11
def Zul.con (k:Nat):Con:=Sig.con { ps:=[.val false (.int .i64) (ros (.int .i64)),.val false (.int .i64) (ros (.int .i64)),.val false .str (ros .str)],rs:=[.val false [.v .str]],ntmps:=29 } (fun x=>Zul k x.1 x.2.1 x.2.2)
theorem Zul.ok (k:Nat):Zf Tryz.prog 280 (Zul.con k):=fA (cX (cC (Zfb.ok k) (cC (Z6b.ok k) (cC (Zxi.ok k) (cC (Z2k.ok k) cN))))) Tryz.func280
def Zbg.j0 (k:Nat) (a1:Int) (a2:List Str) (a3:List Zr) (a4:Int) (a5:Int) (a6:Int) (a7:Int) (a8:Int) (a9:Str) (a10:List Int) (a11:List Int) (a12:Int) (a13:Str) (a14:Int) (a15:Int) (a16:Int) (a17:Int) (a18:List Zad):Option ((Int×Str×Int×Int×Int×Int)):=
 let e19:=(a1,(a2,a3))
 bif a14==1 then
  Ya (at? a11 a17) fun v20=>
  Ya (Zzg e19 v20) fun v21=>
  some (v21,a13,a14,a15,a16,a17)
 else
 let e22:=(a4,(a5,(a6,(a7,(a8,(a9,(a10,a11)))))))
 Ya (Zic k e19 e22) fun v23=>
 Ya (Z8c k v23) fun v24=>
 Ya (at? v24 a15) fun v25=>
 Ya (at? v24 a15) fun v26=>
 Ya (Z5m k e19 e22 a18 v26) fun v27=>
 some (a12,v27,a14,a15,a16,a17)
def Zbg (k:Nat) (a1:G28) (a2:G46):Option (List Z5c×Str×List Int×Int):=
 bif a2.1 != 5 then
  Ya (Zhg 10) fun v3=>
  some (v3.1,v3.2.1,v3.2.2.1,v3.2.2.2)
 else
 Ya (Zqj k a1 a2) fun v4=>
 bif decide (((v4.length):Int)≤a2.2.2.2.2.1) then
  Ya (Zpj a2) fun v5=>
  Ya (Zye k a1 v5) fun v6=>
  some (v6,[],[0],0)
 else
 let e7:=at? v4 a2.2.2.2.2.1
 Ya (e7) fun v8=>
 Ya (e7) fun v9=>
 let e10:=Yb .i64 (3+v9.2.2.1)
 Ya (Zsb k a1.2 e10) fun v11=>
 Ya (Zbg.j0 k a1.1 a1.2.1 a1.2.2 a2.1 a2.2.1 a2.2.2.1 a2.2.2.2.1 a2.2.2.2.2.1 a2.2.2.2.2.2.1 a2.2.2.2.2.2.2.1 a2.2.2.2.2.2.2.2 e10 v11 v9.1 v9.2.1 v9.2.2.1 v9.2.2.2 v4) fun y12=>
 Ya (Zoj a2) fun v13=>
 Ya (Zul k a2.2.2.2.2.1 y12.1 y12.2.1) fun v14=>
 let e15:=Yb .i64 (a2.2.2.2.2.1+1)
 Ya (Zye k a1 (v13.1,(v13.2.1,(v13.2.2.1,(v13.2.2.2.1,(e15,v13.2.2.2.2.2)))))) fun v16=>
 let e17:=(true,(0,[]))
 Ya (Zt 32 [(false,(2,v14)),e17,(false,(y12.1,y12.2.1)),e17] v16) fun v18=>
 some (v18,[],[(Yb .i64 (((v4.length):Int)-e15))],0)
def Zbg.con (k:Nat):Con:=Sig.con { ps:=[.val true T28 (ros T28),.val true T46 (ros T46)],rs:=[.val true [.own 151 Zjc,.v .str,.own 2 (.int .i64),.v (.int .i64)]],ntmps:=99 } (fun x=>Zbg k x.1 x.2)
def Zbg.cok (k:Nat):=cXr true false (cC (Zhg.ok k) (cC (Z8c.ok k) (cC (Zsb.ok k) (cC (Zoj.ok k) (cC (Zye.ok k) (cC (Zpj.ok k) (cC (Zic.ok k) (cC (Zzg.ok k) (cC (Zqj.ok k) (cC (Z5m.ok k) (cC (Zul.ok k) cN)))))))))))
def Zbg.j0.s (k:Nat):Summ:=lq 99 { tmps:=[(2,.eptr [.v (.int .i64),.bor .str,.bor Zp]),(3,.eptr [.v (.int .i64),.v (.int .i64),.v (.int .i64),.v (.int .i64),.v (.int .i64),.v .str,.bor (.int .i64),.bor (.int .i64)]),(5,.one (.own 3)),(7,.one (.ptr 2 0)),(8,.one (.v (.int .i64))),(9,.one (.v .str))],slots:=[(2,.box 139 [.v (.int .i64),.v (.int .i64),.v (.int .i64),.v (.int .i64)]),(3,.arr false 139 Z4b)],nb:=4 } [(.nrm,{ tmps:=[(8,.one (.v (.int .i64))),(9,.one (.v .str))],slots:=[(2,.box 139 [.v (.int .i64),.v (.int .i64),.v (.int .i64),.v (.int .i64)])],nb:=4 })] (fun x=>Zbg.j0 k x.1 x.2.1 x.2.2.1 x.2.2.2.1 x.2.2.2.2.1 x.2.2.2.2.2.1 x.2.2.2.2.2.2.1 x.2.2.2.2.2.2.2.1 x.2.2.2.2.2.2.2.2.1 x.2.2.2.2.2.2.2.2.2.1 x.2.2.2.2.2.2.2.2.2.2.1 x.2.2.2.2.2.2.2.2.2.2.2.1 x.2.2.2.2.2.2.2.2.2.2.2.2.1 x.2.2.2.2.2.2.2.2.2.2.2.2.2.1 x.2.2.2.2.2.2.2.2.2.2.2.2.2.2.1 x.2.2.2.2.2.2.2.2.2.2.2.2.2.2.2.1 x.2.2.2.2.2.2.2.2.2.2.2.2.2.2.2.2.1 x.2.2.2.2.2.2.2.2.2.2.2.2.2.2.2.2.2)
def Zbg.j0.ok (k:Nat):=(jA (Zbg.cok k):Zj Tryz.prog _ (cL (cR (cR (cR (cR (cR (cR (cR (cR (cB Tryz.f234)))))))))) (Zbg.j0.s k))
theorem Zbg.ok (k:Nat):Zf Tryz.prog 234 (Zbg.con k):=fP (.two .auto (.two .auto (.two .auto (.two .auto (.two .auto (.two .auto (.two .auto (.two .auto (.two (.sum (Zbg.j0.s k)) .auto))))))))) (Zbg.cok k) Tryz.func234 (sC (Zbg.j0.ok k) sN)
def Zze.l0 (k:Nat):Nat→Int→List Str→List Zr→Int→Int→Int→Int→Int→Str→List Int→List Int→Int→List Zad→List G52→List Str→Option ((List Str))
 | 0,_,_,_,_,_,_,_,_,_,_,_,_,_,_,_=>none
 | j+1,a1,a2,a3,a4,a5,a6,a7,a8,a9,a10,a11,a12,a13,a14,a15=>
  bif decide (a12<((a13.length):Int)) then
   Ya (at? a13 a12) fun v16=>
   Ya (at? a13 a12) fun v17=>
   let e18:=Yb .i64 (a12+1)
   bif (v17.1==2)&&(decide (a8≤a12)) then
    Ya (at? a13 a12) fun v19=>
    Ya (at? a13 a12) fun v20=>
    Ya (at? a13 a12) fun v21=>
    Ya (at? a13 a12) fun v22=>
    let e23:=at? a14 v22.2.1
    Ya (e23) fun v24=>
    Ya (e23) fun v25=>
    Ya (Z5m k (a1,(a2,a3)) (a4,(a5,(a6,(a7,(a8,(a9,(a10,a11))))))) a13 v25) fun v26=>
    let e27:=at? a15 v20.2.2.1
    Ya (e27) fun v28=>
    Ya (e27) fun v29=>
    Zze.l0 k j a1 a2 a3 a4 a5 a6 a7 a8 a9 a10 a11 e18 a13 a14 (Yd a15 (Yc v20.2.2.1) v26)
   else
   Zze.l0 k j a1 a2 a3 a4 a5 a6 a7 a8 a9 a10 a11 e18 a13 a14 a15
  else
  some a15
def Zze (k:Nat) (a1:G28) (a2:G46):Option (List Str):=
 Ya (Z6d k a1) fun v3=>
 Ya (Zic k a1 a2) fun v4=>
 bif a2.1==4 then
  Ya (Z2m k v3 v4) fun v5=>
  some v5.1
 else
 bif a2.1 != 5 then
  some v3
 else
 Ya (Zqj k a1 a2) fun v6=>
 Ya (Z8c k v4) fun v7=>
 Ya (Zt 16 [] v3) fun v8=>
 Ya (Zze.l0 k k a1.1 a1.2.1 a1.2.2 a2.1 a2.2.1 a2.2.2.1 a2.2.2.2.1 a2.2.2.2.2.1 a2.2.2.2.2.2.1 a2.2.2.2.2.2.2.1 a2.2.2.2.2.2.2.2 0 v6 v7 v8) fun y9=>
 some y9
def Zze.con (k:Nat):Con:=Sig.con { ps:=[.val true T28 (ros T28),.val true T46 (ros T46)],rs:=[.val false [.own 9 .str]],ntmps:=73 } (fun x=>Zze k x.1 x.2)
def Zze.cok (k:Nat):=cXr true false (cC (Z6d.ok k) (cC (Z8c.ok k) (cC (Zic.ok k) (cC (Z2m.ok k) (cC (Zqj.ok k) (cC (Z5m.ok k) cN))))))
def Zze.l0.s (k:Nat):Summ:=lp 73 { tmps:=[(2,.eptr [.v (.int .i64),.bor .str,.bor Zp]),(3,.eptr [.v (.int .i64),.v (.int .i64),.v (.int .i64),.v (.int .i64),.v (.int .i64),.v .str,.bor (.int .i64),.bor (.int .i64)]),(7,.one (.own 6)),(8,.one (.own 7)),(9,.one (.own 8)),(10,.one (.v (.int .i64)))],slots:=[(6,.arr false 139 Z4b),(7,.arr false 52 T52),(8,.arr false 9 .str)],nb:=9 } [(.exit 0,{ tmps:=[(9,.one (.own 9))],slots:=[(9,.arr false 9 .str)],nb:=10 })] (fun j x=>Zze.l0 k j x.1 x.2.1 x.2.2.1 x.2.2.2.1 x.2.2.2.2.1 x.2.2.2.2.2.1 x.2.2.2.2.2.2.1 x.2.2.2.2.2.2.2.1 x.2.2.2.2.2.2.2.2.1 x.2.2.2.2.2.2.2.2.2.1 x.2.2.2.2.2.2.2.2.2.2.1 x.2.2.2.2.2.2.2.2.2.2.2.1 x.2.2.2.2.2.2.2.2.2.2.2.2.1 x.2.2.2.2.2.2.2.2.2.2.2.2.2.1 x.2.2.2.2.2.2.2.2.2.2.2.2.2.2) k
def Zze.l0.ok (k:Nat):=(lA (Zze.cok k):Zj Tryz.prog _ (.loop (cO (cO (cR (cL (cR (cR (cR (cR (cR (cR (cR (cR (cB Tryz.f235)))))))))))))) (Zze.l0.s k))
theorem Zze.ok (k:Nat):Zf Tryz.prog 235 (Zze.con k):=fP (.two .auto (.two .auto (.two .auto (.two .auto (.two .auto (.two .auto (.two .auto (.two .auto (.two (.two .auto (.one (.sum (Zze.l0.s k)))) .auto))))))))) (Zze.cok k) Tryz.func235 (sC (Zze.l0.ok k) sN)
def Zie.l0:Nat→List G52→Int→Int→Option (Int)
 | 0,_,_,_=>none
 | j+1,a1,a2,a3=>
  bif (decide (a3<((a1.length):Int)))&&(decide (((a1.length):Int)≤20)) then
   Ya (at? a1 a3) fun v4=>
   let e5:=Yb .i64 (a3+1)
   bif v4.1==5 then
    Zie.l0 j a1 e5 e5
   else
   Zie.l0 j a1 a2 e5
  else
  some a2
def Zie (k:Nat) (a1:List G52):Option (Int):=
 Ya (Zie.l0 k a1 0 0) fun y2=>
 some y2
def Zie.con (k:Nat):Con:=Sig.con { ps:=[.val false (.sl T52) (ros (.sl T52))],rs:=[.val false [.v (.int .i64)]],ntmps:=25 } (fun x=>Zie k x)
def Zie.cok (k:Nat):=cX cN
def Zie.l0.s (k:Nat):Summ:=lp 25 { tmps:=[(0,.one (.bor T52)),(3,.one (.v (.int .i64))),(4,.one (.v (.int .i64)))],slots:=[],nb:=0 } [(.exit 0,{ tmps:=[(3,.one (.v (.int .i64)))],slots:=[],nb:=0 })] (fun j x=>Zie.l0 j x.1 x.2.1 x.2.2) k
def Zie.l0.ok (k:Nat):=(lA (Zie.cok k):Zj Tryz.prog _ (.loop (cO (cO (cR (cL (cR (cR (cB Tryz.f281)))))))) (Zie.l0.s k))
theorem Zie.ok (k:Nat):Zf Tryz.prog 281 (Zie.con k):=fP (.two .auto (.two .auto (.two (.two .auto (.one (.sum (Zie.l0.s k)))) .auto))) (Zie.cok k) Tryz.func281 (sC (Zie.l0.ok k) sN)
def Z0g.j0 (k:Nat) (a1:Int) (a2:List Str) (a3:List Zr) (a4:Int) (a5:Int) (a6:Int) (a7:Int) (a8:Int) (a9:Str) (a10:List Int) (a11:List Int) (a12:Int):Option (Int):=
 bif a4==5 then
  Ya (Zqj k (a1,(a2,a3)) (a4,(a5,(a6,(a7,(a8,(a9,(a10,a11)))))))) fun v13=>
  some (Yb .i64 (((v13.length):Int)-a8))
 else
 some a12
def Z0g (k:Nat) (a1:G28) (a2:G46):Option (List Z5c×Str×List Int×Int):=
 Ya (Zic k a1 a2) fun v3=>
 Ya (Z0g.j0 k a1.1 a1.2.1 a1.2.2 a2.1 a2.2.1 a2.2.2.1 a2.2.2.2.1 a2.2.2.2.2.1 a2.2.2.2.2.2.1 a2.2.2.2.2.2.2.1 a2.2.2.2.2.2.2.2 0) fun y4=>
 Ya (Zie k v3) fun v5=>
 Ya (Z5d k a2.2.2.2.2.2.2.1 a2.2.2.2.2.2.2.2) fun v6=>
 some ([],[],[a2.1,a2.2.1,((v3.length):Int),v5,y4,((v6.length):Int)],0)
def Z0g.con (k:Nat):Con:=Sig.con { ps:=[.val true T28 (ros T28),.val true T46 (ros T46)],rs:=[.val true [.own 151 Zjc,.v .str,.own 2 (.int .i64),.v (.int .i64)]],ntmps:=37 } (fun x=>Z0g k x.1 x.2)
def Z0g.cok (k:Nat):=cXr true false (cC (Zic.ok k) (cC (Zqj.ok k) (cC (Zie.ok k) (cC (Z5d.ok k) cN))))
def Z0g.j0.s (k:Nat):Summ:=lq 37 { tmps:=[(2,.eptr [.v (.int .i64),.bor .str,.bor Zp]),(3,.eptr [.v (.int .i64),.v (.int .i64),.v (.int .i64),.v (.int .i64),.v (.int .i64),.v .str,.bor (.int .i64),.bor (.int .i64)]),(6,.one (.v (.int .i64)))],slots:=[],nb:=2 } [(.nrm,{ tmps:=[(6,.one (.v (.int .i64)))],slots:=[],nb:=2 })] (fun x=>Z0g.j0 k x.1 x.2.1 x.2.2.1 x.2.2.2.1 x.2.2.2.2.1 x.2.2.2.2.2.1 x.2.2.2.2.2.2.1 x.2.2.2.2.2.2.2.1 x.2.2.2.2.2.2.2.2.1 x.2.2.2.2.2.2.2.2.2.1 x.2.2.2.2.2.2.2.2.2.2.1 x.2.2.2.2.2.2.2.2.2.2.2)
def Z0g.j0.ok (k:Nat):=(jA (Z0g.cok k):Zj Tryz.prog _ (cL (cR (cR (cR (cB Tryz.f236))))) (Z0g.j0.s k))
theorem Z0g.ok (k:Nat):Zf Tryz.prog 236 (Z0g.con k):=fP (.two .auto (.two .auto (.two .auto (.two (.sum (Z0g.j0.s k)) .auto)))) (Z0g.cok k) Tryz.func236 (sC (Z0g.j0.ok k) sN)
def Zgf.l0 (k:Nat):Nat→Int→List Str→List Zr→Int→Int→Int→Int→Int→Str→List Int→List Int→Int→List Z5c→Option ((List Z5c))
 | 0,_,_,_,_,_,_,_,_,_,_,_,_,_=>none
 | j+1,a1,a2,a3,a4,a5,a6,a7,a8,a9,a10,a11,a12,a13=>
  bif decide (a12<((a11.length):Int)) then
   Ya (at? a11 a12) fun v14=>
   Ya (Zzg (a1,(a2,a3)) v14) fun v15=>
   Ya (Zsb k (a2,a3) v15) fun v16=>
   let e17:=Yb .i64 (a12+1)
   bif !(v16==[]) then
    Ya (Zt 32 a13 ([(false,(v15,[]))])) fun v18=>
    Zgf.l0 k j a1 a2 a3 a4 a5 a6 a7 a8 a9 a10 a11 e17 v18
   else
   Zgf.l0 k j a1 a2 a3 a4 a5 a6 a7 a8 a9 a10 a11 e17 a13
  else
  some a13
def Zgf (k:Nat) (a1:G28) (a2:G46):Option (List Z5c):=
 Ya (Zic k a1 a2) fun v3=>
 Ya (Zie k v3) fun v4=>
 Ya (Zgf.l0 k k a1.1 a1.2.1 a1.2.2 a2.1 a2.2.1 a2.2.2.1 a2.2.2.2.1 a2.2.2.2.2.1 a2.2.2.2.2.2.1 a2.2.2.2.2.2.2.1 a2.2.2.2.2.2.2.2 (Yb .i64 (a2.2.2.2.1+v4)) []) fun y5=>
 bif decide (0<((y5.length):Int)) then
  Ya (Zt 32 y5 ([(true,(0,[]))])) fun v6=>
  some v6
 else
 some y5
def Zgf.con (k:Nat):Con:=Sig.con { ps:=[.val true T28 (ros T28),.val true T46 (ros T46)],rs:=[.val false [.own 151 Zjc]],ntmps:=50 } (fun x=>Zgf k x.1 x.2)
def Zgf.cok (k:Nat):=cXr true false (cC (Zsb.ok k) (cC (Zic.ok k) (cC (Zzg.ok k) (cC (Zie.ok k) cN))))
def Zgf.l0.s (k:Nat):Summ:=lp 50 { tmps:=[(2,.eptr [.v (.int .i64),.bor .str,.bor Zp]),(3,.eptr [.v (.int .i64),.v (.int .i64),.v (.int .i64),.v (.int .i64),.v (.int .i64),.v .str,.bor (.int .i64),.bor (.int .i64)]),(5,.one (.own 2)),(7,.one (.v (.int .i64)))],slots:=[(2,.arr false 151 Zjc)],nb:=3 } [(.exit 0,{ tmps:=[(5,.one (.own 3))],slots:=[(3,.arr false 151 Zjc)],nb:=4 })] (fun j x=>Zgf.l0 k j x.1 x.2.1 x.2.2.1 x.2.2.2.1 x.2.2.2.2.1 x.2.2.2.2.2.1 x.2.2.2.2.2.2.1 x.2.2.2.2.2.2.2.1 x.2.2.2.2.2.2.2.2.1 x.2.2.2.2.2.2.2.2.2.1 x.2.2.2.2.2.2.2.2.2.2.1 x.2.2.2.2.2.2.2.2.2.2.2.1 x.2.2.2.2.2.2.2.2.2.2.2.2) k
def Zgf.l0.ok (k:Nat):=(lA (Zgf.cok k):Zj Tryz.prog _ (.loop (cO (cO (cR (cL (cR (cR (cR (cB Tryz.f286))))))))) (Zgf.l0.s k))
theorem Zgf.ok (k:Nat):Zf Tryz.prog 286 (Zgf.con k):=fP (.two .auto (.two .auto (.two .auto (.two (.two .auto (.one (.sum (Zgf.l0.s k)))) .auto)))) (Zgf.cok k) Tryz.func286 (sC (Zgf.l0.ok k) sN)
def Z1m (k:Nat) (a1:Str) (a2:Int):Option (Bool×Int×Str):=
 Ya (Z3k k a1) fun v3=>
 Ya (Zcc k (v3.1,(0,false))) fun v4=>
 Ya (Zcc k v4.2) fun v5=>
 Ya (Zth k v5.2) fun v6=>
 bif v6.2.2.2||(a1==[]) then
  some (true,0,[])
 else
 Ya (Zul k v4.1 v5.1 v6.1) fun v7=>
 bif (!(v7==a1))||(v4.1 != a2) then
  some (true,0,[])
 else
 some (false,v5.1,v6.1)
def Z1m.con (k:Nat):Con:=Sig.con { ps:=[.val false .str (ros .str),.val false (.int .i64) (ros (.int .i64))],rs:=[.val true [.v .bool,.v (.int .i64),.v .str]],ntmps:=46 } (fun x=>Z1m k x.1 x.2)
theorem Z1m.ok (k:Nat):Zf Tryz.prog 287 (Z1m.con k):=fA (cX (cC (Z3k.ok k) (cC (Zcc.ok k) (cC (Zth.ok k) (cC (Zul.ok k) cN))))) Tryz.func287
def Zfk (k:Nat) (a1:G28) (a2:G46):Option (List Z5c):=
 Ya (Zoj a2) fun v3=>
 bif a2.1==2 then
  Ya (Zgf k a1 a2) fun v4=>
  some v4
 else
 bif a2.1==3 then
  Ya (Zye k a1 (4,(2,v3.2.2))) fun v5=>
  some v5
 else
 bif a2.1==4 then
  bif a2.2.1==0 then
   Ya (Zpj a2) fun v6=>
   Ya (Zye k a1 v6) fun v7=>
   some v7
  else
  Ya (Zye k a1 (v3.1,((Yb .i64 (a2.2.1-1)),v3.2.2))) fun v8=>
  some v8
 else
 bif a2.1==5 then
  Ya (Zsb k a1.2 2) fun v9=>
  Ya (Z1m k v9 a2.2.2.2.2.1) fun v10=>
  bif (v10.1||(decide (40≤a2.2.2.2.2.1)))||(decide (((a1.2.1.length):Int)≤v10.2.1)) then
   some ([])
  else
  Ya (Zye k a1 (v3.1,(v3.2.1,(v3.2.2.1,(v3.2.2.2.1,((Yb .i64 (a2.2.2.2.2.1+1)),v3.2.2.2.2.2)))))) fun v11=>
  Ya (Zt 32 ([v10,(true,(0,[]))]) v11) fun v12=>
  some v12
 else
 some ([])
def Zfk.con (k:Nat):Con:=Sig.con { ps:=[.val true T28 (ros T28),.val true T46 (ros T46)],rs:=[.val false [.own 151 Zjc]],ntmps:=76 } (fun x=>Zfk k x.1 x.2)
theorem Zfk.ok (k:Nat):Zf Tryz.prog 239 (Zfk.con k):=fA (cXr true false (cC (Zsb.ok k) (cC (Zoj.ok k) (cC (Zye.ok k) (cC (Zpj.ok k) (cC (Zgf.ok k) (cC (Z1m.ok k) cN))))))) Tryz.func239
def Zdh (k:Nat) (a1:G28) (a2:G46) (a3:G54):Option (List Z5c×Str×List Int×Int):=
 Ya (Zoj a2) fun v4=>
 bif a3.1==1 then
  Ya (Zxe k a1 a2 a3) fun v5=>
  some (v5.1,v5.2.1,v5.2.2.1,v5.2.2.2)
 else
 bif a3.1==2 then
  Ya (Zrq k a1 a2 a3) fun v6=>
  some (v6.1,v6.2.1,v6.2.2.1,v6.2.2.2)
 else
 bif a3.1==3 then
  Ya (Zqq k a1 a2) fun v7=>
  some (v7.1,v7.2.1,v7.2.2.1,v7.2.2.2)
 else
 bif a3.1==4 then
  bif (a2.1==1)||(a2.1==5) then
   Ya (Zhg 10) fun v8=>
   some (v8.1,v8.2.1,v8.2.2.1,v8.2.2.2)
  else
  Ya (Zpj a2) fun v9=>
  Ya (Zye k a1 v9) fun v10=>
  some (v10,[],[],0)
 else
 bif a3.1==5 then
  bif a2.1 != 4 then
   Ya (Zhg 10) fun v11=>
   some (v11.1,v11.2.1,v11.2.2.1,v11.2.2.2)
  else
  Ya (Zye k a1 (5,(0,v4.2.2))) fun v12=>
  Ya (Zt 32 ([(false,(2,[])),(true,(0,[]))]) v12) fun v13=>
  some (v13,[],[],0)
 else
 bif a3.1==6 then
  Ya (Zbg k a1 a2) fun v14=>
  some (v14.1,v14.2.1,v14.2.2.1,v14.2.2.2)
 else
 bif a3.1==7 then
  bif decide (a1.1≤a3.2.1) then
   Ya (Zhg 8) fun v15=>
   some (v15.1,v15.2.1,v15.2.2.1,v15.2.2.2)
  else
  Ya (Zze k a1 a2) fun v16=>
  let e17:=at? v16 a3.2.1
  Ya (e17) fun v18=>
  Ya (e17) fun v19=>
  some ([],v19,[],0)
 else
 bif a3.1==8 then
  Ya (Z0g k a1 a2) fun v20=>
  some (v20.1,v20.2.1,v20.2.2.1,v20.2.2.2)
 else
 bif a3.1==9 then
  Ya (Z2c k a2.2.2.2.2.2.2.1 a2.2.2.2.2.2.2.2 a3.2.1) fun v21=>
  bif v21.2 != 0 then
   Ya (Zhg v21.2) fun v22=>
   some (v22.1,v22.2.1,v22.2.2.1,v22.2.2.2)
  else
  Ya (Zsd k a2.2.2.2.2.2.2.1) fun v23=>
  Ya (Zsd k v21.1) fun v24=>
  Ya (Zdd k (Yb .i64 (v23+v24))) fun v25=>
  Ya (Zye k a1 (v4.1,(v4.2.1,(v4.2.2.1,(v4.2.2.2.1,(v4.2.2.2.2.1,(v4.2.2.2.2.2.1,(v25,v4.2.2.2.2.2.2.2)))))))) fun v26=>
  some (v26,[],[],0)
 else
 bif a3.1==10 then
  Ya (Zye k a1 (v4.1,(v4.2.1,(v4.2.2.1,(v4.2.2.2.1,(v4.2.2.2.2.1,(v4.2.2.2.2.2.1,([],v4.2.2.2.2.2.2.2)))))))) fun v27=>
  some (v27,[],[],0)
 else
 Ya (Zfk k a1 a2) fun v28=>
 some (v28,[],[],0)
def Zdh.con (k:Nat):Con:=Sig.con { ps:=[.val true T28 (ros T28),.val true T46 (ros T46),.val true T54 (ros T54)],rs:=[.val true [.own 151 Zjc,.v .str,.own 2 (.int .i64),.v (.int .i64)]],ntmps:=127 } (fun x=>Zdh k x.1 x.2.1 x.2.2)
theorem Zdh.ok (k:Nat):Zf Tryz.prog 153 (Zdh.con k):=fA (cXr true false (cC (Zsd.ok k) (cC (Zhg.ok k) (cC (Zoj.ok k) (cC (Zxe.ok k) (cC (Zrq.ok k) (cC (Zqq.ok k) (cC (Zye.ok k) (cC (Zpj.ok k) (cC (Zbg.ok k) (cC (Zze.ok k) (cC (Z0g.ok k) (cC (Z2c.ok k) (cC (Zdd.ok k) (cC (Zfk.ok k) cN))))))))))))))) Tryz.func153
def Zzm (k:Nat) (a1:G28) (a2:G54):Option (List Z5c×Str×List Int×Int):=
 Ya (Zni k a1 a2) fun v3=>
 bif v3 != 0 then
  Ya (Zhg v3) fun v4=>
  some (v4.1,v4.2.1,v4.2.2.1,v4.2.2.2)
 else
 Ya (Zyi k a1) fun v5=>
 Ya (Zdh k a1 (v5.1,(v5.2.1,(v5.2.2.1,(v5.2.2.2.1,(v5.2.2.2.2.1,(v5.2.2.2.2.2.1,(v5.2.2.2.2.2.2.1,v5.2.2.2.2.2.2.2.1))))))) a2) fun v6=>
 some (v6.1,v6.2.1,v6.2.2.1,v6.2.2.2)
def Zzm.con (k:Nat):Con:=Sig.con { ps:=[.val true T28 (ros T28),.val true T54 (ros T54)],rs:=[.val true [.own 151 Zjc,.v .str,.own 2 (.int .i64),.v (.int .i64)]],ntmps:=24 } (fun x=>Zzm k x.1 x.2)
theorem Zzm.ok (k:Nat):Zf Tryz.prog 70 (Zzm.con k):=fA (cXr true false (cC (Zni.ok k) (cC (Zhg.ok k) (cC (Zyi.ok k) (cC (Zdh.ok k) cN))))) Tryz.func70
def Z0m (k:Nat) (a1:G28) (a2:G54):Option (Int×List Str×List Zr×Str×List Int×Int):=
 Ya (Zni k a1 a2) fun v3=>
 bif v3==1 then
  some (0,[],[],[],[],1)
 else
 Ya (Zzm k a1 a2) fun v4=>
 Ya (Zef k a1.2 v4.1) fun v5=>
 some (a1.1,v5.1,v5.2.1,v4.2.1,v4.2.2.1,v4.2.2.2)
def Z0m.con (k:Nat):Con:=Sig.con { ps:=[.val true T28 (ros T28),.val true T54 (ros T54)],rs:=[.val true [.v (.int .i64),.own 9 .str,.own 195 Zp,.v .str,.own 2 (.int .i64),.v (.int .i64)]],ntmps:=30 } (fun x=>Z0m k x.1 x.2)
theorem Z0m.ok (k:Nat):Zf Tryz.prog 21 (Z0m.con k):=fA (cXr true false (cC (Zef.ok k) (cC (Zni.ok k) (cC (Zzm.ok k) cN)))) Tryz.func21
def Zaf.l0:Nat→List Str→Int→List Str→Option ((List Str))
 | 0,_,_,_=>none
 | j+1,a1,a2,a3=>
  bif decide (a2<((a1.length):Int)) then
   Ya (at? a1 a2) fun v4=>
   Ya (at? a3 a2) fun v5=>
   Ya (at? a3 a2) fun v6=>
   Zaf.l0 j a1 (Yb .i64 (a2+1)) (Yd a3 (Yc a2) v4)
  else
  some a3
def Zaf (k:Nat) (a1:List Str):Option (List Str):=
 Ya (Zwg 16 ((a1.length):Int) ((a1.length):Int) []) fun v2=>
 Ya (Zaf.l0 k a1 0 v2) fun y3=>
 some y3
def Zaf.con (k:Nat):Con:=Sig.con { ps:=[.val false (.sl .str) (ros (.sl .str))],rs:=[.val false [.own 9 .str]],ntmps:=22 } (fun x=>Zaf k x)
def Zaf.cok (k:Nat):=cX cN
def Zaf.l0.s (k:Nat):Summ:=lp 22 { tmps:=[(0,.one (.bor .str)),(3,.one (.own 1)),(4,.one (.v (.int .i64)))],slots:=[(1,.arr false 9 .str)],nb:=2 } [(.exit 0,{ tmps:=[(3,.one (.own 2))],slots:=[(2,.arr false 9 .str)],nb:=3 })] (fun j x=>Zaf.l0 j x.1 x.2.1 x.2.2) k
def Zaf.l0.ok (k:Nat):=(lA (Zaf.cok k):Zj Tryz.prog _ (.loop (cO (cO (cR (cL (cR (cR (cB Tryz.f154)))))))) (Zaf.l0.s k))
theorem Zaf.ok (k:Nat):Zf Tryz.prog 154 (Zaf.con k):=fP (.two .auto (.two .auto (.two (.two .auto (.one (.sum (Zaf.l0.s k)))) .auto))) (Zaf.cok k) Tryz.func154 (sC (Zaf.l0.ok k) sN)
def Zet (a1:Zr):Option (Int×Str):=
 some (a1.1,a1.2)
def Zet.con (k:Nat):Con:=Sig.con { ps:=[.val true Zp (ros Zp)],rs:=[.val true [.v (.int .i64),.v .str]],ntmps:=11 } (fun x=>Zet x)
theorem Zet.ok (k:Nat):Zf Tryz.prog 240 (Zet.con k):=fA (cX cN) Tryz.func240
def Z9e.l0:Nat→List Zr→Int→List Zr→Option ((List Zr))
 | 0,_,_,_=>none
 | j+1,a1,a2,a3=>
  bif decide (a2<((a1.length):Int)) then
   Ya (at? a1 a2) fun v4=>
   Ya (Zet v4) fun v5=>
   Ya (at? a3 a2) fun v6=>
   Ya (at? a3 a2) fun v7=>
   Z9e.l0 j a1 (Yb .i64 (a2+1)) (Yd a3 (Yc a2) v5)
  else
  some a3
def Z9e (k:Nat) (a1:List Zr):Option (List Zr):=
 Ya (Zwg 24 ((a1.length):Int) ((a1.length):Int) (0,[])) fun v2=>
 Ya (Z9e.l0 k a1 0 v2) fun y3=>
 some y3
def Z9e.con (k:Nat):Con:=Sig.con { ps:=[.val false (.sl Zp) (ros (.sl Zp))],rs:=[.val false [.own 195 Zp]],ntmps:=23 } (fun x=>Z9e k x)
def Z9e.cok (k:Nat):=cX (cC (Zet.ok k) cN)
def Z9e.l0.s (k:Nat):Summ:=lp 23 { tmps:=[(0,.one (.bor Zp)),(3,.one (.own 1)),(4,.one (.v (.int .i64)))],slots:=[(1,.arr false 195 Zp)],nb:=2 } [(.exit 0,{ tmps:=[(3,.one (.own 2))],slots:=[(2,.arr false 195 Zp)],nb:=3 })] (fun j x=>Z9e.l0 j x.1 x.2.1 x.2.2) k
def Z9e.l0.ok (k:Nat):=(lA (Z9e.cok k):Zj Tryz.prog _ (.loop (cO (cO (cR (cL (cR (cR (cB Tryz.f155)))))))) (Z9e.l0.s k))
theorem Z9e.ok (k:Nat):Zf Tryz.prog 155 (Z9e.con k):=fP (.two .auto (.two .auto (.two (.two .auto (.one (.sum (Z9e.l0.s k)))) .auto))) (Z9e.cok k) Tryz.func155 (sC (Z9e.l0.ok k) sN)
def Zwp (k:Nat) (a1:G26):Option (List Str×List Zr):=
 Ya (Zaf k a1.1) fun v2=>
 Ya (Z9e k a1.2) fun v3=>
 some (v2,v3)
def Zwp.con (k:Nat):Con:=Sig.con { ps:=[.val true T26 (ros T26)],rs:=[.val true [.own 9 .str,.own 195 Zp]],ntmps:=13 } (fun x=>Zwp k x)
theorem Zwp.ok (k:Nat):Zf Tryz.prog 71 (Zwp.con k):=fA (cXr true false (cC (Zaf.ok k) (cC (Z9e.ok k) cN))) Tryz.func71
def Zll (k:Nat) (a1:G28):Option (Int×List Str×List Zr):=
 Ya (Zwp k a1.2) fun v2=>
 some (a1.1,v2.1,v2.2)
def Zll.con (k:Nat):Con:=Sig.con { ps:=[.val true T28 (ros T28)],rs:=[.val true [.v (.int .i64),.own 9 .str,.own 195 Zp]],ntmps:=12 } (fun x=>Zll k x)
theorem Zll.ok (k:Nat):Zf Tryz.prog 22 (Zll.con k):=fA (cXr true false (cC (Zwp.ok k) cN)) Tryz.func22
def Zft (a1:G52):Option (Int×Int×Int×Str):=
 some (a1.1,a1.2.1,a1.2.2.1,a1.2.2.2)
def Zft.con (k:Nat):Con:=Sig.con { ps:=[.val true T52 (ros T52)],rs:=[.val true [.v (.int .i64),.v (.int .i64),.v (.int .i64),.v .str]],ntmps:=17 } (fun x=>Zft x)
theorem Zft.ok (k:Nat):Zf Tryz.prog 72 (Zft.con k):=fA (cX cN) Tryz.func72
def Ztn (a1:G54):Option (Int×Int×Int×Str×Int×Int×Int×Str):=
 Ya (Zft a1.2.2.2.2) fun v2=>
 some (a1.1,a1.2.1,a1.2.2.1,a1.2.2.2.1,v2.1,v2.2.1,v2.2.2.1,v2.2.2.2)
def Ztn.con (k:Nat):Con:=Sig.con { ps:=[.val true T54 (ros T54)],rs:=[.val true [.v (.int .i64),.v (.int .i64),.v (.int .i64),.v .str,.v (.int .i64),.v (.int .i64),.v (.int .i64),.v .str]],ntmps:=21 } (fun x=>Ztn x)
theorem Ztn.ok (k:Nat):Zf Tryz.prog 23 (Ztn.con k):=fA (cX (cC (Zft.ok k) cN)) Tryz.func23
def Zhb (a1:Int) (a2:Int) (a3:Int):Option (Bool):=
 some ((decide (a2≤a1))&&(decide (a1≤a3)))
def Zhb.con (k:Nat):Con:=Sig.con { ps:=[.val false (.int .i64) (ros (.int .i64)),.val false (.int .i64) (ros (.int .i64)),.val false (.int .i64) (ros (.int .i64))],rs:=[.val false [.v .bool]],ntmps:=15 } (fun x=>Zhb x.1 x.2.1 x.2.2)
theorem Zhb.ok (k:Nat):Zf Tryz.prog 123 (Zhb.con k):=fA (cX cN) Tryz.func123
def Z3j (a1:Int):Option (Bool):=
 Ya (Zhb a1 1 8) fun v2=>
 some v2
def Z3j.con (k:Nat):Con:=Sig.con { ps:=[.val false (.int .i64) (ros (.int .i64))],rs:=[.val false [.v .bool]],ntmps:=5 } (fun x=>Z3j x)
theorem Z3j.ok (k:Nat):Zf Tryz.prog 92 (Z3j.con k):=fA (cX (cC (Zhb.ok k) cN)) Tryz.func92
def Zji (a1:List Str):Option (Int):=
 some ((a1.length):Int)
def Zji.con (k:Nat):Con:=Sig.con { ps:=[.val false (.sl .str) (ros (.sl .str))],rs:=[.val false [.v (.int .i64)]],ntmps:=5 } (fun x=>Zji x)
theorem Zji.ok (k:Nat):Zf Tryz.prog 93 (Zji.con k):=fA (cX cN) Tryz.func93
def Zap (a1:Str):Option (Bool):=
 some (((a1.length):Int) != 8)
def Zap.con (k:Nat):Con:=Sig.con { ps:=[.val false .str (ros .str)],rs:=[.val false [.v .bool]],ntmps:=6 } (fun x=>Zap x)
theorem Zap.ok (k:Nat):Zf Tryz.prog 95 (Zap.con k):=fA (cX cN) Tryz.func95
def Zid.l0:Nat→List Str→Int→Int→Option (Unit ⊕ Int)
 | 0,_,_,_=>none
 | j+1,a1,a2,a3=>
  bif decide (a3<a2) then
   Ya (at? a1 a3) fun v4=>
   Ya (Zap v4) fun v5=>
   bif v5 then
    some (.inr a3)
   else
   Zid.l0 j a1 a2 (Yb .i64 (a3+1))
  else
  some (.inl ())
def Zid (k:Nat) (a1:List Str):Option (Int):=
 Ya (Zid.l0 k a1 ((a1.length):Int) 0) fun
  | .inl y2=>
   some (-1)
  | .inr y3=>
   some y3
def Zid.con (k:Nat):Con:=Sig.con { ps:=[.val false (.sl .str) (ros (.sl .str)),.fn 95 []],rs:=[.val false [.v (.int .i64)]],ntmps:=19 } (fun x=>Zid k x)
def Zid.cok (k:Nat):=cX (cC (Zap.ok k) cN)
def Zid.l0.s (k:Nat):Summ:=lp 19 { tmps:=[(0,.one (.bor .str)),(1,.fn 95 []),(7,.one (.v (.int .i64))),(8,.one (.v (.int .i64)))],slots:=[],nb:=0 } [(.exit 0,{ tmps:=[],slots:=[],nb:=0 }),(.ret,{ tmps:=[(4,.one (.v (.int .i64)))],slots:=[],nb:=0 })] (fun j x=>Zid.l0 j x.1 x.2.1 x.2.2) k
def Zid.l0.ok (k:Nat):=(lA (Zid.cok k):Zj Tryz.prog _ (.loop (cO (cO (cR (cL (cR (cB Tryz.f184))))))) (Zid.l0.s k))
theorem Zid.ok (k:Nat):Zf Tryz.prog 184 (Zid.con k):=fP (.two .auto (.two (.two .auto (.one (.sum (Zid.l0.s k)))) .auto)) (Zid.cok k) Tryz.func184 (sC (Zid.l0.ok k) sN)
def Z7r (k:Nat) (a1:List Str):Option (Bool):=
 Ya (Zid k a1) fun v2=>
 some (decide (0≤v2))
def Z7r.con (k:Nat):Con:=Sig.con { ps:=[.val false (.sl .str) (ros (.sl .str)),.fn 95 []],rs:=[.val false [.v .bool]],ntmps:=9 } (fun x=>Z7r k x)
theorem Z7r.ok (k:Nat):Zf Tryz.prog 94 (Z7r.con k):=fA (cX (cC (Zid.ok k) cN)) Tryz.func94
def Z9o (k:Nat) (a1:List Str):Option (Bool):=
 Ya (Zji a1) fun v2=>
 Ya (Z3j v2) fun v3=>
 bif v3 then
  Ya (Z7r k a1) fun v4=>
  some (!v4)
 else
 some false
def Z9o.con (k:Nat):Con:=Sig.con { ps:=[.val false (.sl .str) (ros (.sl .str))],rs:=[.val false [.v .bool]],ntmps:=11 } (fun x=>Z9o k x)
theorem Z9o.ok (k:Nat):Zf Tryz.prog 50 (Z9o.con k):=fA (cX (cC (Z3j.ok k) (cC (Zji.ok k) (cC (Z7r.ok k) cN)))) Tryz.func50
def Zqr (a1:Zr) (a2:Int):Option (Bool):=
 some (a1.1==a2)
def Zqr.con (k:Nat):Con:=Sig.con { ps:=[.val true Zp (ros Zp),.rptr (.int .i64)],rs:=[.val false [.v .bool]],ntmps:=8 } (fun x=>Zqr x.1 x.2)
theorem Zqr.ok (k:Nat):Zf Tryz.prog 266 (Zqr.con k):=fA (cX cN) Tryz.func266
def Zxd.l0:Nat→List Zr→Int→Int→Int→Option (Int ⊕ (Int×Int))
 | 0,_,_,_,_=>none
 | j+1,a1,a2,a3,a4=>
  bif decide (a3<a2) then
   Ya (at? a1 a3) fun v5=>
   Ya (Zqr v5 a4) fun v6=>
   bif v6 then
    some (.inr (a3,a4))
   else
   Zxd.l0 j a1 a2 (Yb .i64 (a3+1)) a4
  else
  some (.inl a4)
def Zxd (k:Nat) (a1:List Zr) (a2:Int):Option (Int×Int):=
 Ya (Zxd.l0 k a1 ((a1.length):Int) 0 a2) fun
  | .inl y3=>
   some ((-1),y3)
  | .inr y4=>
   some (y4.1,y4.2)
def Zxd.con (k:Nat):Con:=Sig.con { ps:=[.val false (.sl Zp) (ros (.sl Zp)),.fn 266 [(2,(.int .i64),(Z7g (.int .i64)))]],rs:=[.val false [.v (.int .i64)]],ntmps:=19 } (fun x=>Zxd k x.1 x.2)
def Zxd.cok (k:Nat):=cX (cC (Zqr.ok k) cN)
def Zxd.l0.s (k:Nat):Summ:=lp 19 { tmps:=[(0,.one (.bor Zp)),(1,.fn 266 [.ptr 0 0]),(7,.one (.v (.int .i64))),(8,.one (.v (.int .i64)))],slots:=[(0,.box 2 [.v (.int .i64)])],nb:=1 } [(.exit 0,{ tmps:=[],slots:=[(0,.box 2 [.v (.int .i64)])],nb:=1 }),(.ret,{ tmps:=[(4,.one (.v (.int .i64)))],slots:=[(0,.box 2 [.v (.int .i64)])],nb:=1 })] (fun j x=>Zxd.l0 j x.1 x.2.1 x.2.2.1 x.2.2.2) k
def Zxd.l0.ok (k:Nat):=(lA (Zxd.cok k):Zj Tryz.prog _ (.loop (cO (cO (cR (cL (cR (cB Tryz.f265))))))) (Zxd.l0.s k))
theorem Zxd.ok (k:Nat):Zf Tryz.prog 265 (Zxd.con k):=fP (.two .auto (.two (.two .auto (.one (.sum (Zxd.l0.s k)))) .auto)) (Zxd.cok k) Tryz.func265 (sC (Zxd.l0.ok k) sN)
def Zok (k:Nat) (a1:G26) (a2:Int):Option (Int):=
 Ya (Zxd k a1.2 a2) fun v3=>
 some v3.1
def Zok.con (k:Nat):Con:=Sig.con { ps:=[.val true T26 (ros T26),.val false (.int .i64) (ros (.int .i64))],rs:=[.val false [.v (.int .i64)]],ntmps:=9 } (fun x=>Zok k x.1 x.2)
theorem Zok.ok (k:Nat):Zf Tryz.prog 212 (Zok.con k):=fA (cXr true false (cC (Zxd.ok k) cN)) Tryz.func212
def Z6f (k:Nat) (a1:G26) (a2:Int):Option (Str):=
 Ya (Zok k a1 a2) fun v3=>
 bif decide (0≤v3) then
  Ya (at? a1.2 v3) fun v4=>
  some v4.2
 else
 Ya (at? a1.1 a2) fun v5=>
 some v5
def Z6f.con (k:Nat):Con:=Sig.con { ps:=[.val true T26 (ros T26),.val false (.int .i64) (ros (.int .i64))],rs:=[.val false [.v .str]],ntmps:=22 } (fun x=>Z6f k x.1 x.2)
theorem Z6f.ok (k:Nat):Zf Tryz.prog 119 (Z6f.con k):=fA (cXr true false (cC (Zok.ok k) cN)) Tryz.func119
def Zud.l0 (k:Nat):Nat→Int→List Str→List Zr→Int→Int→List Str→Option ((List Str))
 | 0,_,_,_,_,_,_=>none
 | j+1,a1,a2,a3,a4,a5,a6=>
  bif decide (a5<a4) then
   Ya (Z6f k (a2,a3) (Yb .i64 (3+a5))) fun v7=>
   Ya (Zt 16 a6 [v7]) fun v8=>
   Zud.l0 k j a1 a2 a3 a4 (Yb .i64 (a5+1)) v8
  else
  some a6
def Zud (k:Nat) (a1:G28):Option (List Str):=
 Ya (Zud.l0 k k a1.1 a1.2.1 a1.2.2 a1.1 0 []) fun y2=>
 some y2
def Zud.con (k:Nat):Con:=Sig.con { ps:=[.val true T28 (ros T28)],rs:=[.val false [.own 9 .str]],ntmps:=20 } (fun x=>Zud k x)
def Zud.cok (k:Nat):=cXr true false (cC (Z6f.ok k) cN)
def Zud.l0.s (k:Nat):Summ:=lp 20 { tmps:=[(1,.eptr [.v (.int .i64),.bor .str,.bor Zp]),(3,.one (.own 0)),(6,.one (.v (.int .i64))),(7,.one (.v (.int .i64)))],slots:=[(0,.arr false 9 .str)],nb:=1 } [(.exit 0,{ tmps:=[(3,.one (.own 1))],slots:=[(1,.arr false 9 .str)],nb:=2 })] (fun j x=>Zud.l0 k j x.1 x.2.1 x.2.2.1 x.2.2.2.1 x.2.2.2.2.1 x.2.2.2.2.2) k
def Zud.l0.ok (k:Nat):=(lA (Zud.cok k):Zj Tryz.prog _ (.loop (cO (cO (cR (cL (cR (cR (cB Tryz.f58)))))))) (Zud.l0.s k))
theorem Zud.ok (k:Nat):Zf Tryz.prog 58 (Zud.con k):=fP (.two .auto (.two .auto (.two (.two .auto (.one (.sum (Zud.l0.s k)))) .auto))) (Zud.cok k) Tryz.func58 (sC (Zud.l0.ok k) sN)
def Z8o (a1:Str):Option (Bool):=
 some (decide (96<((a1.length):Int)))
def Z8o.con (k:Nat):Con:=Sig.con { ps:=[.val false .str (ros .str)],rs:=[.val false [.v .bool]],ntmps:=6 } (fun x=>Z8o x)
theorem Z8o.ok (k:Nat):Zf Tryz.prog 213 (Z8o.con k):=fA (cX cN) Tryz.func213
def Z3d.l0:Nat→List Str→Int→Int→Option (Unit ⊕ Int)
 | 0,_,_,_=>none
 | j+1,a1,a2,a3=>
  bif decide (a3<a2) then
   Ya (at? a1 a3) fun v4=>
   Ya (Z8o v4) fun v5=>
   bif v5 then
    some (.inr a3)
   else
   Z3d.l0 j a1 a2 (Yb .i64 (a3+1))
  else
  some (.inl ())
def Z3d (k:Nat) (a1:List Str):Option (Int):=
 Ya (Z3d.l0 k a1 ((a1.length):Int) 0) fun
  | .inl y2=>
   some (-1)
  | .inr y3=>
   some y3
def Z3d.con (k:Nat):Con:=Sig.con { ps:=[.val false (.sl .str) (ros (.sl .str)),.fn 213 []],rs:=[.val false [.v (.int .i64)]],ntmps:=19 } (fun x=>Z3d k x)
def Z3d.cok (k:Nat):=cX (cC (Z8o.ok k) cN)
def Z3d.l0.s (k:Nat):Summ:=lp 19 { tmps:=[(0,.one (.bor .str)),(1,.fn 213 []),(7,.one (.v (.int .i64))),(8,.one (.v (.int .i64)))],slots:=[],nb:=0 } [(.exit 0,{ tmps:=[],slots:=[],nb:=0 }),(.ret,{ tmps:=[(4,.one (.v (.int .i64)))],slots:=[],nb:=0 })] (fun j x=>Z3d.l0 j x.1 x.2.1 x.2.2) k
def Z3d.l0.ok (k:Nat):=(lA (Z3d.cok k):Zj Tryz.prog _ (.loop (cO (cO (cR (cL (cR (cB Tryz.f184))))))) (Z3d.l0.s k))
theorem Z3d.ok (k:Nat):Zf Tryz.prog 184 (Z3d.con k):=fP (.two .auto (.two (.two .auto (.one (.sum (Z3d.l0.s k)))) .auto)) (Z3d.cok k) Tryz.func184 (sC (Z3d.l0.ok k) sN)
def Zeq (k:Nat) (a1:List Str):Option (Bool):=
 Ya (Z3d k a1) fun v2=>
 some (decide (0≤v2))
def Zeq.con (k:Nat):Con:=Sig.con { ps:=[.val false (.sl .str) (ros (.sl .str)),.fn 213 []],rs:=[.val false [.v .bool]],ntmps:=9 } (fun x=>Zeq k x)
theorem Zeq.ok (k:Nat):Zf Tryz.prog 94 (Zeq.con k):=fA (cX (cC (Z3d.ok k) cN)) Tryz.func94
def Zjm (a1:G26) (a2:Int):Option (Bool):=
 Ya (Zji a1.1) fun v3=>
 Ya (Zhb a2 0 (Yb .i64 (v3-1))) fun v4=>
 some v4
def Zjm.con (k:Nat):Con:=Sig.con { ps:=[.val true T26 (ros T26),.val false (.int .i64) (ros (.int .i64))],rs:=[.val false [.v .bool]],ntmps:=11 } (fun x=>Zjm x.1 x.2)
theorem Zjm.ok (k:Nat):Zf Tryz.prog 147 (Zjm.con k):=fA (cXr true false (cC (Zji.ok k) (cC (Zhb.ok k) cN))) Tryz.func147
def Zre.l0 (k:Nat):Nat→List Str→List Zr→List Zr→Int→Int→Option (Unit ⊕ Bool)
 | 0,_,_,_,_,_=>none
 | j+1,a1,a2,a3,a4,a5=>
  bif decide (a5<a4) then
   Ya (at? a3 a5) fun v6=>
   Ya (Zjm (a1,a2) v6.1) fun v7=>
   bif (!v7)||(decide (96<((v6.2.length):Int))) then
    some (.inr false)
   else
   Ya (Zok k (a1,a2) v6.1) fun v8=>
   bif decide (v8<a5) then
    some (.inr false)
   else
   Zre.l0 k j a1 a2 a3 a4 (Yb .i64 (a5+1))
  else
  some (.inl ())
def Zre (k:Nat) (a1:G26):Option (Bool):=
 Ya (Zji a1.1) fun v2=>
 Ya (Zhb v2 1 40) fun v3=>
 let e4:=((a1.2.length):Int)
 bif (!v3)||(decide (((a1.1.length):Int)<e4)) then
  some false
 else
 Ya (Zeq k a1.1) fun v5=>
 bif v5 then
  some false
 else
 Ya (Zre.l0 k k a1.1 a1.2 a1.2 e4 0) fun
  | .inl y6=>
   some true
  | .inr y7=>
   some y7
def Zre.con (k:Nat):Con:=Sig.con { ps:=[.val true T26 (ros T26)],rs:=[.val false [.v .bool]],ntmps:=52 } (fun x=>Zre k x)
def Zre.cok (k:Nat):=cXr true false (cC (Zji.ok k) (cC (Zeq.ok k) (cC (Zhb.ok k) (cC (Zjm.ok k) (cC (Zok.ok k) cN)))))
def Zre.l0.s (k:Nat):Summ:=lp 52 { tmps:=[(1,.eptr [.bor .str,.bor Zp]),(25,.one (.bor Zp)),(26,.one (.v (.int .i64))),(27,.one (.v (.int .i64)))],slots:=[],nb:=0 } [(.exit 0,{ tmps:=[],slots:=[],nb:=0 }),(.ret,{ tmps:=[(2,.one (.v .bool))],slots:=[],nb:=0 })] (fun j x=>Zre.l0 k j x.1 x.2.1 x.2.2.1 x.2.2.2.1 x.2.2.2.2) k
def Zre.l0.ok (k:Nat):=(lA (Zre.cok k):Zj Tryz.prog _ (.loop (cO (cO (cR (cL (cR (cR (cB Tryz.f120)))))))) (Zre.l0.s k))
theorem Zre.ok (k:Nat):Zf Tryz.prog 120 (Zre.con k):=fP (.two .auto (.two .auto (.two (.two .auto (.one (.sum (Zre.l0.s k)))) .auto))) (Zre.cok k) Tryz.func120 (sC (Zre.l0.ok k) sN)
def Z4e.l0:Nat→Str→Int→Int→Int→Option ((Int×Int×Int))
 | 0,_,_,_,_=>none
 | j+1,a1,a2,a3,a4=>
  bif decide ((Yb .i64 (((a1.length):Int)-a4))≤a2) then
   some (0,0,4)
  else
  let e5:=Yb .i64 (a2+a4)
  Ya (at? a1 e5) fun v6=>
  bif (a4==9)&&(decide (1<(v6.toNat:Int))) then
   some (0,0,3)
  else
  let e7:=Yb .i64 (7*a4)
  Ya (Zvb e7) fun v8=>
  let e9:=intBits .or .u64 a3 (shl .u64 (Yb .u64 (intBits .and .u8 (v6.toNat:Int) 127)) e7)
  bif decide (127<(v6.toNat:Int)) then
   Z4e.l0 j a1 a2 e9 (Yb .i64 (a4+1))
  else
  bif ((v6.toNat:Int)==0)&&(decide (0<a4)) then
   some (0,0,3)
  else
  Ya (Zvb 1) fun v10=>
  let e11:=Yb .i64 (e5+1)
  let e12:=Yb .i64 (shr .u64 e9 1)
  bif (intBits .and .u64 e9 1)==1 then
   some (intBits .xor .i64 (-1) e12,e11,0)
  else
  some (e12,e11,0)
def Z4e (k:Nat) (a1:Str) (a2:Int):Option (Int×Int×Int):=
 bif decide (a2<0) then
  some (0,0,1)
 else
 Ya (Z4e.l0 k a1 a2 0 0) fun y3=>
 some (y3.1,y3.2.1,y3.2.2)
def Z4e.con (k:Nat):Con:=Sig.con { ps:=[.val false .str (ros .str),.val false (.int .i64) (ros (.int .i64))],rs:=[.val false [.v (.int .i64)],.val false [.v (.int .i64)],.val false [.v (.int .i64)]],ntmps:=61 } (fun x=>Z4e k x.1 x.2)
def Z4e.cok (k:Nat):=cX cN
def Z4e.l0.s (k:Nat):Summ:=lp 61 { tmps:=[(0,.one (.v .str)),(1,.one (.v (.int .i64))),(7,.one (.v (.int .u64))),(8,.one (.v (.int .i64)))],slots:=[],nb:=0 } [(.ret,{ tmps:=[(4,.one (.v (.int .i64))),(5,.one (.v (.int .i64))),(6,.one (.v (.int .i64)))],slots:=[],nb:=0 })] (fun j x=>Z4e.l0 j x.1 x.2.1 x.2.2.1 x.2.2.2) k
def Z4e.l0.ok (k:Nat):=(lA (Z4e.cok k):Zj Tryz.prog _ (.loop (cO (cO (cR (cR (cR (cR (cB Tryz.f267)))))))) (Z4e.l0.s k))
theorem Z4e.ok (k:Nat):Zf Tryz.prog 267 (Z4e.con k):=fP (.two .auto (.two .auto (.two .auto (.two .auto (.one (.sum (Z4e.l0.s k))))))) (Z4e.cok k) Tryz.func267 (sC (Z4e.l0.ok k) sN)
end Go.Proofs.Qz
