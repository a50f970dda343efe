/- What the law FnFold needs, part 8 of 15: the Lean functions of the Go functions that it reaches, with the proofs that the calls come to what they say, and plain facts about them. Conditions: those that each theorem states. Written by a session and by its programs (after the kit's printer). -/
import Derived.Test.YtmohoeinamddcaaGreatDoorXFnFold6
open Option renaming bind → Ya
open Go.Proofs.Tryz renaming prog → Yb, f173 → Yk, f190 → Yl, func173 → Ym, f131 → Yq, f136 → Yr, f176 → Ys, f188 → Yt, f67 → Yu, f71 → Yv, f83 → Yw, func131 → Yx
open Go.IntKind renaming wrap → Yc
open List renaming getD → Yd, set → Yf, mem_singleton → Yg, replicate → Yj, getElem?_eq_getElem → Yo, nodup_nil → Yp
open Int renaming toNat → Ye, toNat_natCast → Yn
open Nat renaming le_refl → Yh, mul_one → Yi
namespace Go.Proofs.Qz
open Go Go.RowKit
set_option linter.unusedVariables false
set_option linter.defProp false
def Zen (k:Nat) (a1:Int) (a2:Str):Option (Str):=Ya (Zec k a1) fun v3=>Ya (Z0i k a2) fun v4=>Ya (Zge v3 v4) fun v5=>Ya (Z1i k v5) fun v6=>some v6
def Zen.con (k:Nat):Con:=Sig.con { ps:=[.val false (.int .i64) (ros (.int .i64)),.val false .str (ros .str)],rs:=[.val false [.v .str]],ntmps:=11 } (fun x=>Zen k x.1 x.2)
theorem Zen.ok (k:Nat):Ze Yb 116 (Zen.con k):=fA (cX (cC (Z0i.ok k) (cC (Z1i.ok k) (cC (Zec.ok k) cN)))) Tryz.func116
def Z6l (k:Nat) (a1:G26) (a2:Str):Option (List Zyg):=Ya (Z0c k a1) fun v3=>let e4:=Yc .i64 (v3.1+1);bif decide (1000000<e4) then some ([]) else let e5:=(true,(0,[]));bif v3.2.2.2==0 then Ya (Zen k e4 a2) fun v6=>some ([(false,(1,v6)),e5]) else Ya (Zen k e4 a2) fun v7=>some ([(false,(0,v7)),e5])
def Z6l.con (k:Nat):Con:=Sig.con { ps:=[.val true T26 (ros T26),.val false .str (ros .str)],rs:=[.val false [.own 108 Zte]],ntmps:=28 } (fun x=>Z6l k x.1 x.2)
theorem Z6l.ok (k:Nat):Ze Yb 53 (Z6l.con k):=fA (cXr true false (cC (Z0c.ok k) (cC (Zen.ok k) cN))) Tryz.func53
def Zrc.l0:Nat→Int→List Int→Int→Int→Option (Int)
 | 0,_,_,_,_=>none
 | j+1,a1,a2,a3,a4=>bif decide (a4<a3) then Ya (at? a2 a4) fun v5=>Ya (Zrb v5) fun v6=>Zrc.l0 j (intBits .or .i64 a1 (shl .i64 1 v5)) a2 a3 (Yc .i64 (a4+1)) else some a1
def Zrc (k:Nat) (a1:List Int):Option (Int):=Ya (Zrc.l0 k 0 a1 ((a1.length):Int) 0) fun y2=>some y2
def Zrc.con (k:Nat):Con:=Sig.con { ps:=[.val false (.sl (.int .i64)) (ros (.sl (.int .i64)))],rs:=[.val false [.v (.int .i64)]],ntmps:=18 } (fun x=>Zrc k x)
def Zrc.cok (k:Nat):=cX cN
def Zrc.l0.s (k:Nat):Summ:=lp 18 { tmps:=[(3,.one (.v (.int .i64))),(6,.one (.bor (.int .i64))),(7,.one (.v (.int .i64))),(8,.one (.v (.int .i64)))],slots:=[],nb:=0 } [(.exit 0,{ tmps:=[(3,.one (.v (.int .i64)))],slots:=[],nb:=0 })] (fun j x=>Zrc.l0 j x.1 x.2.1 x.2.2.1 x.2.2.2) k
def Zrc.l0.ok (k:Nat):=(lA (Zrc.cok k):Zo Yb _ (.loop (cO (cO (cR (cL (cR (cR (cB Tryz.f85)))))))) (Zrc.l0.s k))
theorem Zrc.ok (k:Nat):Ze Yb 85 (Zrc.con k):=fP (.two .auto (.two .auto (.two (.two .auto (.one (.sum (Zrc.l0.s k)))) .auto))) (Zrc.cok k) Tryz.func85 (sC (Zrc.l0.ok k) sN)
def Zxd.l0 (k:Nat):Nat→Str→List Int→Int→Int→Option (Str)
 | 0,_,_,_,_=>none
 | j+1,a1,a2,a3,a4=>bif decide (a4<a3) then Ya (at? a2 a4) fun v5=>Ya (Zec k v5) fun v6=>Ya (Zge a1 v6) fun v7=>Zxd.l0 k j v7 a2 a3 (Yc .i64 (a4+1)) else some a1
def Zxd (k:Nat) (a1:List Int):Option (Str):=Ya (Zxd.l0 k k [] a1 ((a1.length):Int) 0) fun y2=>some y2
def Zxd.con (k:Nat):Con:=Sig.con { ps:=[.val false (.sl (.int .i64)) (ros (.sl (.int .i64)))],rs:=[.val false [.v .str]],ntmps:=18 } (fun x=>Zxd k x)
def Zxd.cok (k:Nat):=cX (cC (Zec.ok k) cN)
def Zxd.l0.s (k:Nat):Summ:=lp 18 { tmps:=[(3,.one (.v .str)),(6,.one (.bor (.int .i64))),(7,.one (.v (.int .i64))),(8,.one (.v (.int .i64)))],slots:=[],nb:=0 } [(.exit 0,{ tmps:=[(3,.one (.v .str))],slots:=[],nb:=0 })] (fun j x=>Zxd.l0 k j x.1 x.2.1 x.2.2.1 x.2.2.2) k
def Zxd.l0.ok (k:Nat):=(lA (Zxd.cok k):Zo Yb _ (.loop (cO (cO (cR (cL (cR (cR (cB Tryz.f117)))))))) (Zxd.l0.s k))
theorem Zxd.ok (k:Nat):Ze Yb 117 (Zxd.con k):=fP (.two .auto (.two .auto (.two (.two .auto (.one (.sum (Zxd.l0.s k)))) .auto))) (Zxd.cok k) Tryz.func117 (sC (Zxd.l0.ok k) sN)
def Z1k (k:Nat) (a1:G58):Option (Str):=Ya (Zrc k a1.2.2.2.2.2.2.1) fun v2=>Ya (Zrc k a1.2.2.2.2.2.2.2) fun v3=>Ya (Zxd k [a1.1,a1.2.1,a1.2.2.1,a1.2.2.2.1,a1.2.2.2.2.1,v2,v3]) fun v4=>Ya (Z0i k a1.2.2.2.2.2.1) fun v5=>Ya (Zge v4 v5) fun v6=>some v6
def Z1k.con (k:Nat):Con:=Sig.con { ps:=[.val true T58 (ros T58)],rs:=[.val false [.v .str]],ntmps:=25 } (fun x=>Z1k k x)
theorem Z1k.ok (k:Nat):Ze Yb 54 (Z1k.con k):=fA (cXr true false (cC (Zrc.ok k) (cC (Zxd.ok k) (cC (Z0i.ok k) cN)))) Tryz.func54
def Z4o (k:Nat) (a1:List Str):Option (Int×List Str×List Zz):=Ya (Z5g a1) fun v2=>let e3:=Yc .i64 ((Yc .i64 (3+v2))+24);Ya (Zrg 16 e3 e3 []) fun v4=>Ya (Z9p 3 (v4.length)) fun v5=>Ya (Z1k k (1,(0,(0,(0,(0,([],([],[])))))))) fun v6=>let e7:=((Zul v4 (Ye 3) a1),[]);Ya (Z6l k e7 v6) fun v8=>Ya (Zad k e7 v8) fun v9=>some (v2,v9.1,v9.2)
def Z4o.con (k:Nat):Con:=Sig.con { ps:=[.val false (.sl .str) (ros (.sl .str))],rs:=[.val true [.v (.int .i64),.own 9 .str,.own 176 Zx]],ntmps:=30 } (fun x=>Z4o k x)
theorem Z4o.ok (k:Nat):Ze Yb 26 (Z4o.con k):=fA (cXr false true (cC (Zad.ok k) (cC (Z5g.ok k) (cC (Z6l.ok k) (cC (Z1k.ok k) cN))))) Tryz.func26
def Zxk (k:Nat) (a1:List Str):Option (Int×List Str×List Zz×Int):=bif decide (400<((a1.length):Int)) then some (0,[],[],2) else Ya (Zzk k a1) fun v2=>bif !v2 then some (0,[],[],1) else Ya (Z4o k a1) fun v3=>some (v3.1,v3.2.1,v3.2.2,0)
def Zxk.con (k:Nat):Con:=Sig.con { ps:=[.val false (.sl .str) (ros (.sl .str))],rs:=[.val true [.v (.int .i64),.own 9 .str,.own 176 Zx,.v (.int .i64)]],ntmps:=16 } (fun x=>Zxk k x)
theorem Zxk.ok (k:Nat):Ze Yb 6 (Zxk.con k):=fA (cX (cC (Zzk.ok k) (cC (Z4o.ok k) cN))) Tryz.func6
def Z1o (a1:Str):Option (Bool):=some (decide (96<((a1.length):Int)))
def Z1o.con (k:Nat):Con:=Sig.con { ps:=[.val false .str (ros .str)],rs:=[.val false [.v .bool]],ntmps:=6 } (fun x=>Z1o x)
theorem Z1o.ok (k:Nat):Ze Yb 146 (Z1o.con k):=fA (cX cN) Tryz.func146
def Z5d.l0:Nat→List Str→Int→Int→Option (Unit ⊕ Int)
 | 0,_,_,_=>none
 | j+1,a1,a2,a3=>bif decide (a3<a2) then Ya (at? a1 a3) fun v4=>Ya (Z1o v4) fun v5=>bif v5 then some (.inr a3) else Z5d.l0 j a1 a2 (Yc .i64 (a3+1)) else some (.inl ())
def Z5d (k:Nat) (a1:List Str):Option (Int):=Ya (Z5d.l0 k a1 ((a1.length):Int) 0) fun
  | .inl y2=>some (-1)
  | .inr y3=>some y3
def Z5d.con (k:Nat):Con:=Sig.con { ps:=[.val false (.sl .str) (ros (.sl .str)),.fn 146 []],rs:=[.val false [.v (.int .i64)]],ntmps:=19 } (fun x=>Z5d k x)
def Z5d.cok (k:Nat):=cX (cC (Z1o.ok k) cN)
def Z5d.l0.s (k:Nat):Summ:=lp 19 { tmps:=[(0,.one (.bor .str)),(1,.fn 146 []),(7,.one (.v (.int .i64))),(8,.one (.v (.int .i64)))],slots:=[],nb:=0 } [(.exit 0,{ tmps:=[],slots:=[],nb:=0 }),(.ret,{ tmps:=[(4,.one (.v (.int .i64)))],slots:=[],nb:=0 })] (fun j x=>Z5d.l0 j x.1 x.2.1 x.2.2) k
def Z5d.l0.ok (k:Nat):=(lA (Z5d.cok k):Zo Yb _ (.loop (cO (cO (cR (cL (cR (cB Tryz.f115))))))) (Z5d.l0.s k))
theorem Z5d.ok (k:Nat):Ze Yb 115 (Z5d.con k):=fP (.two .auto (.two (.two .auto (.one (.sum (Z5d.l0.s k)))) .auto)) (Z5d.cok k) Tryz.func115 (sC (Z5d.l0.ok k) sN)
def Ztp (k:Nat) (a1:List Str):Option (Bool):=Ya (Z5d k a1) fun v2=>some (decide (0≤v2))
def Ztp.con (k:Nat):Con:=Sig.con { ps:=[.val false (.sl .str) (ros (.sl .str)),.fn 146 []],rs:=[.val false [.v .bool]],ntmps:=9 } (fun x=>Ztp k x)
theorem Ztp.ok (k:Nat):Ze Yb 51 (Ztp.con k):=fA (cX (cC (Z5d.ok k) cN)) Tryz.func51
def Z2l (a1:G26) (a2:Int):Option (Bool):=Ya (Z5g a1.1) fun v3=>Ya (Zjb a2 0 (Yc .i64 (v3-1))) fun v4=>some v4
def Z2l.con (k:Nat):Con:=Sig.con { ps:=[.val true T26 (ros T26),.val false (.int .i64) (ros (.int .i64))],rs:=[.val false [.v .bool]],ntmps:=11 } (fun x=>Z2l x.1 x.2)
theorem Z2l.ok (k:Nat):Ze Yb 97 (Z2l.con k):=fA (cXr true false (cC (Z5g.ok k) (cC (Zjb.ok k) cN))) Tryz.func97
def Zye.l0 (k:Nat):Nat→List Str→List Zz→List Zz→Int→Int→Option (Unit ⊕ Bool)
 | 0,_,_,_,_,_=>none
 | j+1,a1,a2,a3,a4,a5=>bif decide (a5<a4) then Ya (at? a3 a5) fun v6=>Ya (Z2l (a1,a2) v6.1) fun v7=>bif (!v7)||(decide (96<((v6.2.length):Int))) then some (.inr false) else Ya (Z9j k (a1,a2) v6.1) fun v8=>bif decide (v8<a5) then some (.inr false) else Zye.l0 k j a1 a2 a3 a4 (Yc .i64 (a5+1)) else some (.inl ())
def Zye (k:Nat) (a1:G26):Option (Bool):=Ya (Z5g a1.1) fun v2=>Ya (Zjb v2 1 40) fun v3=>let e4:=((a1.2.length):Int);bif (!v3)||(decide (((a1.1.length):Int)<e4)) then some false else Ya (Ztp k a1.1) fun v5=>bif v5 then some false else Ya (Zye.l0 k k a1.1 a1.2 a1.2 e4 0) fun
  | .inl y6=>some true
  | .inr y7=>some y7
def Zye.con (k:Nat):Con:=Sig.con { ps:=[.val true T26 (ros T26)],rs:=[.val false [.v .bool]],ntmps:=52 } (fun x=>Zye k x)
def Zye.cok (k:Nat):=cXr true false (cC (Z5g.ok k) (cC (Ztp.ok k) (cC (Zjb.ok k) (cC (Z2l.ok k) (cC (Z9j.ok k) cN)))))
def Zye.l0.s (k:Nat):Summ:=lp 52 { tmps:=[(1,.eptr [.bor .str,.bor Zx]),(25,.one (.bor Zx)),(26,.one (.v (.int .i64))),(27,.one (.v (.int .i64)))],slots:=[],nb:=0 } [(.exit 0,{ tmps:=[],slots:=[],nb:=0 }),(.ret,{ tmps:=[(2,.one (.v .bool))],slots:=[],nb:=0 })] (fun j x=>Zye.l0 k j x.1 x.2.1 x.2.2.1 x.2.2.2.1 x.2.2.2.2) k
def Zye.l0.ok (k:Nat):=(lA (Zye.cok k):Zo Yb _ (.loop (cO (cO (cR (cL (cR (cR (cB Tryz.f89)))))))) (Zye.l0.s k))
theorem Zye.ok (k:Nat):Ze Yb 89 (Zye.con k):=fP (.two .auto (.two .auto (.two (.two .auto (.one (.sum (Zye.l0.s k)))) .auto))) (Zye.cok k) Tryz.func89 (sC (Zye.l0.ok k) sN)
def Zid.l0:Nat→Int→Int→List Int→Option ((List Int))
 | 0,_,_,_=>none
 | j+1,a1,a2,a3=>bif decide (a2<24) then Ya (Zrb a2) fun v4=>let e5:=Yc .i64 (a2+1);bif (intBits .and .i64 (shr .i64 a1 a2) 1)==1 then Ya (Zmb 8 a3 [a2]) fun v6=>Zid.l0 j a1 e5 v6 else Zid.l0 j a1 e5 a3 else some a3
def Zid (k:Nat) (a1:Int):Option (List Int):=Ya (Zid.l0 k a1 0 []) fun y2=>some y2
def Zid.con (k:Nat):Con:=Sig.con { ps:=[.val false (.int .i64) (ros (.int .i64))],rs:=[.val false [.own 2 (.int .i64)]],ntmps:=19 } (fun x=>Zid k x)
def Zid.cok (k:Nat):=cX cN
def Zid.l0.s (k:Nat):Summ:=lp 19 { tmps:=[(0,.one (.v (.int .i64))),(3,.one (.own 0)),(5,.one (.v (.int .i64)))],slots:=[(0,.arr false 2 (.int .i64))],nb:=1 } [(.exit 0,{ tmps:=[(3,.one (.own 1))],slots:=[(1,.arr false 2 (.int .i64))],nb:=2 })] (fun j x=>Zid.l0 j x.1 x.2.1 x.2.2) k
def Zid.l0.ok (k:Nat):=(lA (Zid.cok k):Zo Yb _ (.loop (cO (cO (cR (cL (cR (cR (cB Tryz.f84)))))))) (Zid.l0.s k))
theorem Zid.ok (k:Nat):Ze Yb 84 (Zid.con k):=fP (.two .auto (.two .auto (.two (.two .auto (.one (.sum (Zid.l0.s k)))) .auto))) (Zid.cok k) Tryz.func84 (sC (Zid.l0.ok k) sN)
def Zqd.l0:Nat→List Int→List Int→Int→Int→Option (Unit ⊕ Bool)
 | 0,_,_,_,_=>none
 | j+1,a1,a2,a3,a4=>bif decide (a4<a3) then Ya (at? a2 a4) fun v5=>Ya (Zjb v5 0 23) fun v6=>bif !v6 then some (.inr false) else let e7:=Yc .i64 (a4+1);bif decide (0<a4) then Ya (at? a1 (Yc .i64 (a4-1))) fun v8=>bif decide (v5≤v8) then some (.inr false) else Zqd.l0 j a1 a2 a3 e7 else Zqd.l0 j a1 a2 a3 e7 else some (.inl ())
def Zqd (k:Nat) (a1:List Int):Option (Bool):=Ya (Zqd.l0 k a1 a1 ((a1.length):Int) 0) fun
  | .inl y2=>some true
  | .inr y3=>some y3
def Zqd.con (k:Nat):Con:=Sig.con { ps:=[.val false (.sl (.int .i64)) (ros (.sl (.int .i64)))],rs:=[.val false [.v .bool]],ntmps:=29 } (fun x=>Zqd k x)
def Zqd.cok (k:Nat):=cX (cC (Zjb.ok k) cN)
def Zqd.l0.s (k:Nat):Summ:=lp 29 { tmps:=[(0,.one (.bor (.int .i64))),(5,.one (.bor (.int .i64))),(6,.one (.v (.int .i64))),(7,.one (.v (.int .i64)))],slots:=[],nb:=0 } [(.exit 0,{ tmps:=[],slots:=[],nb:=0 }),(.ret,{ tmps:=[(2,.one (.v .bool))],slots:=[],nb:=0 })] (fun j x=>Zqd.l0 j x.1 x.2.1 x.2.2.1 x.2.2.2) k
def Zqd.l0.ok (k:Nat):=(lA (Zqd.cok k):Zo Yb _ (.loop (cO (cO (cR (cL (cR (cB Tryz.f41))))))) (Zqd.l0.s k))
theorem Zqd.ok (k:Nat):Ze Yb 41 (Zqd.con k):=fP (.two .auto (.two (.two .auto (.one (.sum (Zqd.l0.s k)))) .auto)) (Zqd.cok k) Tryz.func41 (sC (Zqd.l0.ok k) sN)
def Zsj (a1:List Int):Option (Int):=some ((a1.length):Int)
def Zsj.con (k:Nat):Con:=Sig.con { ps:=[.val false (.sl (.int .i64)) (ros (.sl (.int .i64)))],rs:=[.val false [.v (.int .i64)]],ntmps:=5 } (fun x=>Zsj x)
theorem Zsj.ok (k:Nat):Ze Yb 82 (Zsj.con k):=fA (cX cN) Tryz.func82
def Z3o (k:Nat) (a1:G58):Option (Bool):=Ya (Zjb a1.1 1 5) fun v2=>bif !v2 then some false else Ya (Zqd k a1.2.2.2.2.2.2.1) fun v3=>bif !v3 then some false else Ya (Zqd k a1.2.2.2.2.2.2.2) fun v4=>bif !v4 then some false else Ya (Zrc k a1.2.2.2.2.2.2.1) fun v5=>Ya (Zrc k a1.2.2.2.2.2.2.2) fun v6=>bif (intBits .and .i64 v5 v6) != 0 then some false else let e7:=a1.2.1==0;let e8:=a1.2.2.2.2.1==0;bif a1.1==1 then some (((((e7&&(a1.2.2.1==0))&&(a1.2.2.2.1==0))&&e8)&&(a1.2.2.2.2.2.1==[]))&&(((a1.2.2.2.2.2.2.2.length):Int)==0)) else Ya (Zjb a1.2.2.1 1 20) fun v9=>bif v9 then Ya (Zjb a1.2.2.2.1 0 4) fun v10=>bif v10 then Ya (Zsj a1.2.2.2.2.2.2.2) fun v11=>bif v11==(Yc .i64 (a1.2.2.1+a1.2.2.2.1)) then bif ((a1.2.2.2.2.2.1.length):Int)==32 then Ya (Zjb a1.2.1 0 2) fun v12=>bif v12 then let e13:=a1.1==5;bif e7 then Ya (Zjb a1.2.2.2.2.1 0 40) fun v14=>bif v14 then bif e8 then some true else some e13 else some false else bif a1.1==4 then Ya (Zjb a1.2.2.2.2.1 0 40) fun v15=>bif v15 then bif e8 then some true else some e13 else some false else some false else some false else some false else some false else some false else some false
def Z3o.con (k:Nat):Con:=Sig.con { ps:=[.val true T58 (ros T58)],rs:=[.val false [.v .bool]],ntmps:=116 } (fun x=>Z3o k x)
theorem Z3o.ok (k:Nat):Ze Yb 149 (Z3o.con k):=fA (cXr true false (cC (Zqd.ok k) (cC (Zjb.ok k) (cC (Zsj.ok k) (cC (Zrc.ok k) cN))))) Tryz.func149
def Zbp (k:Nat) (a1:Str):Option (Int×Int×Int×Int×Int×Str×List Int×List Int×Bool):=Ya (Zfc k (a1,(0,false))) fun v2=>Ya (Zfc k v2.2) fun v3=>Ya (Zfc k v3.2) fun v4=>Ya (Zfc k v4.2) fun v5=>Ya (Zfc k v5.2) fun v6=>Ya (Zfc k v6.2) fun v7=>Ya (Zfc k v7.2) fun v8=>Ya (Zpg k v8.2) fun v9=>bif v9.2.2.2||(v9.2.2.1 != ((a1.length):Int)) then some (0,0,0,0,0,[],[],[],false) else Ya (Zjb v7.1 0 16777215) fun v10=>bif !v10 then some (0,0,0,0,0,[],[],[],false) else Ya (Zjb v8.1 0 16777215) fun v11=>bif !v11 then some (0,0,0,0,0,[],[],[],false) else Ya (Zid k v7.1) fun v12=>Ya (Zid k v8.1) fun v13=>Ya (Z3o k (v2.1,(v3.1,(v4.1,(v5.1,(v6.1,(v9.1,(v12,v13)))))))) fun v14=>bif !v14 then some (0,0,0,0,0,[],[],[],false) else some (v2.1,v3.1,v4.1,v5.1,v6.1,v9.1,v12,v13,true)
def Zbp.con (k:Nat):Con:=Sig.con { ps:=[.val false .str (ros .str)],rs:=[.val true [.v (.int .i64),.v (.int .i64),.v (.int .i64),.v (.int .i64),.v (.int .i64),.v .str,.own 2 (.int .i64),.own 2 (.int .i64)],.val false [.v .bool]],ntmps:=64 } (fun x=>Zbp k x)
theorem Zbp.ok (k:Nat):Ze Yb 90 (Zbp.con k):=fA (cX (cC (Zjb.ok k) (cC (Zid.ok k) (cC (Zfc.ok k) (cC (Zpg.ok k) (cC (Z3o.ok k) cN)))))) Tryz.func90
def Zpf (k:Nat) (a1:G28):Option (Int×Int×Int×Int×Int×Str×List Int×List Int×Bool):=Ya (Zrj a1.1) fun v2=>bif !v2 then some (0,0,0,0,0,[],[],[],false) else Ya (Zye k a1.2) fun v3=>bif !v3 then some (0,0,0,0,0,[],[],[],false) else Ya (Z5g a1.2.1) fun v4=>bif v4 != (Yc .i64 ((Yc .i64 (3+a1.1))+24)) then some (0,0,0,0,0,[],[],[],false) else Ya (Z0c k a1.2) fun v5=>bif decide (v5.2.2.2<0) then some (0,0,0,0,0,[],[],[],false) else Ya (Zbp k v5.2.1) fun v6=>some (v6.1,v6.2.1,v6.2.2.1,v6.2.2.2.1,v6.2.2.2.2.1,v6.2.2.2.2.2.1,v6.2.2.2.2.2.2.1,v6.2.2.2.2.2.2.2.1,v6.2.2.2.2.2.2.2.2)
def Zpf.con (k:Nat):Con:=Sig.con { ps:=[.val true T28 (ros T28)],rs:=[.val true [.v (.int .i64),.v (.int .i64),.v (.int .i64),.v (.int .i64),.v (.int .i64),.v .str,.own 2 (.int .i64),.own 2 (.int .i64)],.val false [.v .bool]],ntmps:=42 } (fun x=>Zpf k x)
theorem Zpf.ok (k:Nat):Ze Yb 35 (Zpf.con k):=fA (cXr true false (cC (Zrj.ok k) (cC (Z5g.ok k) (cC (Z0c.ok k) (cC (Zye.ok k) (cC (Zbp.ok k) cN)))))) Tryz.func35
def Zhd.l0 (k:Nat):Nat→Int→List Str→List Zz→Int→Int→List Str→Option ((List Str))
 | 0,_,_,_,_,_,_=>none
 | j+1,a1,a2,a3,a4,a5,a6=>bif decide (a5<a4) then Ya (Z0f k (a2,a3) (Yc .i64 (3+a5))) fun v7=>Ya (Zmb 16 a6 [v7]) fun v8=>Zhd.l0 k j a1 a2 a3 a4 (Yc .i64 (a5+1)) v8 else some a6
def Zhd (k:Nat) (a1:G28):Option (List Str):=Ya (Zhd.l0 k k a1.1 a1.2.1 a1.2.2 a1.1 0 []) fun y2=>some y2
def Zhd.con (k:Nat):Con:=Sig.con { ps:=[.val true T28 (ros T28)],rs:=[.val false [.own 9 .str]],ntmps:=20 } (fun x=>Zhd k x)
def Zhd.cok (k:Nat):=cXr true false (cC (Z0f.ok k) cN)
def Zhd.l0.s (k:Nat):Summ:=lp 20 { tmps:=[(1,.eptr [.v (.int .i64),.bor .str,.bor Zx]),(3,.one (.own 0)),(6,.one (.v (.int .i64))),(7,.one (.v (.int .i64)))],slots:=[(0,.arr false 9 .str)],nb:=1 } [(.exit 0,{ tmps:=[(3,.one (.own 1))],slots:=[(1,.arr false 9 .str)],nb:=2 })] (fun j x=>Zhd.l0 k j x.1 x.2.1 x.2.2.1 x.2.2.2.1 x.2.2.2.2.1 x.2.2.2.2.2) k
def Zhd.l0.ok (k:Nat):=(lA (Zhd.cok k):Zo Yb _ (.loop (cO (cO (cR (cL (cR (cR (cB Tryz.f40)))))))) (Zhd.l0.s k))
theorem Zhd.ok (k:Nat):Ze Yb 40 (Zhd.con k):=fP (.two .auto (.two .auto (.two (.two .auto (.one (.sum (Zhd.l0.s k)))) .auto))) (Zhd.cok k) Tryz.func40 (sC (Zhd.l0.ok k) sN)
def Zgh (a1:G28) (a2:Int):Option (Int):=some (Yc .i64 ((Yc .i64 (3+a1.1))+a2))
def Zgh.con (k:Nat):Con:=Sig.con { ps:=[.val true T28 (ros T28),.val false (.int .i64) (ros (.int .i64))],rs:=[.val false [.v (.int .i64)]],ntmps:=10 } (fun x=>Zgh x.1 x.2)
theorem Zgh.ok (k:Nat):Ze Yb 94 (Zgh.con k):=fA (cXr true false cN) Tryz.func94
def Zzi (k:Nat) (a1:G28) (a2:Int):Option (Str):=Ya (Zgh a1 a2) fun v3=>Ya (Z0f k a1.2 v3) fun v4=>some v4
def Zzi.con (k:Nat):Con:=Sig.con { ps:=[.val true T28 (ros T28),.val false (.int .i64) (ros (.int .i64))],rs:=[.val false [.v .str]],ntmps:=11 } (fun x=>Zzi k x.1 x.2)
theorem Zzi.ok (k:Nat):Ze Yb 93 (Zzi.con k):=fA (cXr true false (cC (Zgh.ok k) (cC (Z0f.ok k) cN))) Tryz.func93
def Z2h (a1:Int):Option (Bool):=Ya (Zjb a1 0 1000000) fun v2=>some v2
def Z2h.con (k:Nat):Con:=Sig.con { ps:=[.val false (.int .i64) (ros (.int .i64))],rs:=[.val false [.v .bool]],ntmps:=5 } (fun x=>Z2h x)
theorem Z2h.ok (k:Nat):Ze Yb 72 (Z2h.con k):=fA (cX (cC (Zjb.ok k) cN)) Tryz.func72
def Ztc.j0 (a1:Int) (a2:Bool) (a3:Int) (a4:Int) (a5:Int) (a6:Str):Option ((Bool×Int×Int×Int×Str)):=bif (a3==3)||(a3==4) then Ya (Zjb a5 0 (Yc .i64 (a1-1))) fun v7=>some (v7,a3,a4,a5,a6) else some (a2,a3,a4,a5,a6)
def Ztc.j1 (a1:Bool) (a2:Int) (a3:Int) (a4:Int) (a5:Str):Option ((Bool×Int×Int×Int×Str)):=bif (a2==2)||(a2==4) then some (((a5.length):Int)==8,a2,a3,a4,a5) else some (a1,a2,a3,a4,a5)
def Ztc (a1:G45) (a2:Int):Option (Bool):=Ya (Zjb a1.2.1 0 (Yc .i64 (a2-1))) fun v3=>Ya (Ztc.j0 a2 (a1.2.2.1==0) a1.1 a1.2.1 a1.2.2.1 a1.2.2.2) fun y4=>Ya (Ztc.j1 (a1.2.2.2==[]) y4.2.1 y4.2.2.1 y4.2.2.2.1 y4.2.2.2.2) fun y5=>bif y5.2.1==5 then Ya (Z2h y5.2.2.2.1) fun v6=>Ya (Zjb y5.2.1 1 5) fun v7=>some (((v7&&(y5.2.2.1==0))&&v6)&&y5.1) else Ya (Zjb y5.2.1 1 5) fun v8=>some (((v8&&v3)&&y4.1)&&y5.1)
def Ztc.con (k:Nat):Con:=Sig.con { ps:=[.val true T45 (ros T45),.val false (.int .i64) (ros (.int .i64))],rs:=[.val false [.v .bool]],ntmps:=65 } (fun x=>Ztc x.1 x.2)
def Ztc.cok (k:Nat):=cX (cC (Zjb.ok k) (cC (Z2h.ok k) cN))
def Ztc.j0.s (k:Nat):Summ:=lq 65 { tmps:=[(1,.one (.v (.int .i64))),(2,.one (.ptr 0 0)),(6,.one (.v .bool))],slots:=[(0,.box 45 [.v (.int .i64),.v (.int .i64),.v (.int .i64),.v .str])],nb:=1 } [(.nrm,{ tmps:=[(6,.one (.v .bool))],slots:=[(0,.box 45 [.v (.int .i64),.v (.int .i64),.v (.int .i64),.v .str])],nb:=1 })] (fun x=>Ztc.j0 x.1 x.2.1 x.2.2.1 x.2.2.2.1 x.2.2.2.2.1 x.2.2.2.2.2)
def Ztc.j0.ok (k:Nat):=(jA (Ztc.cok k):Zo Yb _ (cL (cR (cR (cB Yv)))) (Ztc.j0.s k))
def Ztc.j1.s (k:Nat):Summ:=lq 65 { tmps:=[(2,.one (.ptr 0 0)),(7,.one (.v .bool))],slots:=[(0,.box 45 [.v (.int .i64),.v (.int .i64),.v (.int .i64),.v .str])],nb:=1 } [(.nrm,{ tmps:=[(7,.one (.v .bool))],slots:=[(0,.box 45 [.v (.int .i64),.v (.int .i64),.v (.int .i64),.v .str])],nb:=1 })] (fun x=>Ztc.j1 x.1 x.2.1 x.2.2.1 x.2.2.2.1 x.2.2.2.2)
def Ztc.j1.ok (k:Nat):=(jA (Ztc.cok k):Zo Yb _ (cL (cR (cR (cR (cB Yv))))) (Ztc.j1.s k))
theorem Ztc.ok (k:Nat):Ze Yb 71 (Ztc.con k):=fP (.two .auto (.two .auto (.two (.sum (Ztc.j0.s k)) (.two (.sum (Ztc.j1.s k)) .auto)))) (Ztc.cok k) Tryz.func71 (sC (Ztc.j0.ok k) (sC (Ztc.j1.ok k) sN))
def Z9o (k:Nat) (a1:Za0):Option (Int×Int×Int×Str×Str×Int×Bool):=Ya (Zfc k a1) fun v2=>Ya (Zfc k v2.2) fun v3=>Ya (Zfc k v3.2) fun v4=>Ya (Zpg k v4.2) fun v5=>some (v2.1,v3.1,v4.1,v5.1,v5.2.1,v5.2.2.1,v5.2.2.2)
def Z9o.con (k:Nat):Con:=Sig.con { ps:=[.ref 181 Zgq (Zze Zgq)],rs:=[.val true [.v (.int .i64),.v (.int .i64),.v (.int .i64),.v .str]],ntmps:=12 } (fun x=>Z9o k x)
theorem Z9o.ok (k:Nat):Ze Yb 187 (Z9o.con k):=fA (cX (cC (Zfc.ok k) (cC (Zpg.ok k) cN))) Tryz.func187
def Z8l (k:Nat) (a1:Str) (a2:Int):Option (Int×Int×Int×Str×Int):=Ya (Zck k a1) fun v3=>bif v3.2 != 0 then some (0,0,0,[],v3.2) else Ya (Zfc k (v3.1,(0,false))) fun v4=>Ya (Z9o k v4.2) fun v5=>bif v5.2.2.2.2.2.2||(v5.2.2.2.2.2.1 != ((v3.1.length):Int)) then some (0,0,0,[],3) else Ya (Z2h v4.1) fun v6=>bif !v6 then some (0,0,0,[],3) else Ya (Ztc (v5.1,(v5.2.1,(v5.2.2.1,v5.2.2.2.1))) 8) fun v7=>bif !v7 then some (0,0,0,[],3) else bif v4.1 != a2 then some (0,0,0,[],6) else some (v5.1,v5.2.1,v5.2.2.1,v5.2.2.2.1,0)
def Z8l.con (k:Nat):Con:=Sig.con { ps:=[.val false .str (ros .str),.val false (.int .i64) (ros (.int .i64))],rs:=[.val true [.v (.int .i64),.v (.int .i64),.v (.int .i64),.v .str],.val false [.v (.int .i64)]],ntmps:=58 } (fun x=>Z8l k x.1 x.2)
theorem Z8l.ok (k:Nat):Ze Yb 172 (Z8l.con k):=fA (cX (cC (Ztc.ok k) (cC (Z2h.ok k) (cC (Zfc.ok k) (cC (Zck.ok k) (cC (Z9o.ok k) cN)))))) Tryz.func172
def Zof.l0 (k:Nat):Nat→List Str→Int→Int→List G45→Option ((List G45))
 | 0,_,_,_,_=>none
 | j+1,a1,a2,a3,a4=>bif decide (a3<a2) then Ya (at? a1 a3) fun v5=>Ya (Z8l k v5 a3) fun v6=>bif v6.2.2.2.2 != 0 then some a4 else Ya (Zmb 40 a4 [(v6.1,(v6.2.1,(v6.2.2.1,v6.2.2.2.1)))]) fun v7=>Zof.l0 k j a1 a2 (Yc .i64 (a3+1)) v7 else some a4
def Zof (k:Nat) (a1:List Str):Option (List G45):=Ya (Zof.l0 k k a1 ((a1.length):Int) 0 []) fun y2=>some y2
def Zof.con (k:Nat):Con:=Sig.con { ps:=[.val false (.sl .str) (ros (.sl .str))],rs:=[.val false [.own 45 T45]],ntmps:=29 } (fun x=>Zof k x)
def Zof.cok (k:Nat):=cX (cC (Z8l.ok k) cN)
def Zof.l0.s (k:Nat):Summ:=lp 29 { tmps:=[(3,.one (.own 0)),(8,.one (.bor .str)),(9,.one (.v (.int .i64))),(10,.one (.v (.int .i64)))],slots:=[(0,.arr false 45 T45)],nb:=1 } [(.exit 0,{ tmps:=[(3,.one (.own 1))],slots:=[(1,.arr false 45 T45)],nb:=2 })] (fun j x=>Zof.l0 k j x.1 x.2.1 x.2.2.1 x.2.2.2) k
def Zof.l0.ok (k:Nat):=(lA (Zof.cok k):Zo Yb _ (.loop (cO (cO (cR (cL (cR (cR (cB Tryz.f127)))))))) (Zof.l0.s k))
theorem Zof.ok (k:Nat):Ze Yb 127 (Zof.con k):=fP (.two .auto (.two .auto (.two (.two .auto (.one (.sum (Zof.l0.s k)))) .auto))) (Zof.cok k) Tryz.func127 (sC (Zof.l0.ok k) sN)
def Z4c.l0 (k:Nat):Nat→Int→List Str→List Zz→List Int→Int→Int→List Str→Option ((List Str))
 | 0,_,_,_,_,_,_,_=>none
 | j+1,a1,a2,a3,a4,a5,a6,a7=>bif decide (a6<a5) then Ya (at? a4 a6) fun v8=>Ya (Zzi k (a1,(a2,a3)) v8) fun v9=>Ya (Zmb 16 a7 [v9]) fun v10=>Z4c.l0 k j a1 a2 a3 a4 a5 (Yc .i64 (a6+1)) v10 else some a7
def Z4c (k:Nat) (a1:G28) (a2:G58):Option (List G45):=Ya (Z9b a2.2.2.2.2.2.2.2 a2.2.2.2.1 ((a2.2.2.2.2.2.2.2.length):Int)) fun v3=>Ya (Z4c.l0 k k a1.1 a1.2.1 a1.2.2 v3 ((v3.length):Int) 0 []) fun y4=>Ya (Zof k y4) fun v5=>some v5
def Z4c.con (k:Nat):Con:=Sig.con { ps:=[.val true T28 (ros T28),.val true T58 (ros T58)],rs:=[.val false [.own 45 T45]],ntmps:=27 } (fun x=>Z4c k x.1 x.2)
def Z4c.cok (k:Nat):=cXr true false (cC (Zzi.ok k) (cC (Zof.ok k) cN))
def Z4c.l0.s (k:Nat):Summ:=lp 27 { tmps:=[(2,.eptr [.v (.int .i64),.bor .str,.bor Zx]),(5,.one (.own 0)),(12,.one (.bor (.int .i64))),(13,.one (.v (.int .i64))),(14,.one (.v (.int .i64)))],slots:=[(0,.arr false 9 .str)],nb:=1 } [(.exit 0,{ tmps:=[(5,.one (.own 1))],slots:=[(1,.arr false 9 .str)],nb:=2 })] (fun j x=>Z4c.l0 k j x.1 x.2.1 x.2.2.1 x.2.2.2.1 x.2.2.2.2.1 x.2.2.2.2.2.1 x.2.2.2.2.2.2) k
def Z4c.l0.ok (k:Nat):=(lA (Z4c.cok k):Zo Yb _ (.loop (cO (cO (cR (cL (cR (cR (cB Tryz.f65)))))))) (Z4c.l0.s k))
theorem Z4c.ok (k:Nat):Ze Yb 65 (Z4c.con k):=fP (.two .auto (.two .auto (.two (.two .auto (.one (.sum (Z4c.l0.s k)))) .auto))) (Z4c.cok k) Tryz.func65 (sC (Z4c.l0.ok k) sN)
def Zdp (a1:G45) (a2:Int):Option (Bool):=Ya (Ztc a1 a2) fun v3=>some (!v3)
def Zdp.con (k:Nat):Con:=Sig.con { ps:=[.val true T45 (ros T45),.rptr (.int .i64)],rs:=[.val false [.v .bool]],ntmps:=8 } (fun x=>Zdp x.1 x.2)
theorem Zdp.ok (k:Nat):Ze Yb 129 (Zdp.con k):=fA (cX (cC (Ztc.ok k) cN)) Tryz.func129
def Z1d.l0:Nat→List G45→Int→Int→Int→Option (Int ⊕ (Int×Int))
 | 0,_,_,_,_=>none
 | j+1,a1,a2,a3,a4=>bif decide (a3<a2) then Ya (at? a1 a3) fun v5=>Ya (Zdp v5 a4) fun v6=>bif v6 then some (.inr (a3,a4)) else Z1d.l0 j a1 a2 (Yc .i64 (a3+1)) a4 else some (.inl a4)
def Z1d (k:Nat) (a1:List G45) (a2:Int):Option (Int×Int):=Ya (Z1d.l0 k a1 ((a1.length):Int) 0 a2) fun
  | .inl y3=>some ((-1),y3)
  | .inr y4=>some (y4.1,y4.2)
def Z1d.con (k:Nat):Con:=Sig.con { ps:=[.val false (.sl T45) (ros (.sl T45)),.fn 129 [(2,(.int .i64),(Zze (.int .i64)))]],rs:=[.val false [.v (.int .i64)]],ntmps:=19 } (fun x=>Z1d k x.1 x.2)
def Z1d.cok (k:Nat):=cX (cC (Zdp.ok k) cN)
def Z1d.l0.s (k:Nat):Summ:=lp 19 { tmps:=[(0,.one (.bor T45)),(1,.fn 129 [.ptr 0 0]),(7,.one (.v (.int .i64))),(8,.one (.v (.int .i64)))],slots:=[(0,.box 2 [.v (.int .i64)])],nb:=1 } [(.exit 0,{ tmps:=[],slots:=[(0,.box 2 [.v (.int .i64)])],nb:=1 }),(.ret,{ tmps:=[(4,.one (.v (.int .i64)))],slots:=[(0,.box 2 [.v (.int .i64)])],nb:=1 })] (fun j x=>Z1d.l0 j x.1 x.2.1 x.2.2.1 x.2.2.2) k
def Z1d.l0.ok (k:Nat):=(lA (Z1d.cok k):Zo Yb _ (.loop (cO (cO (cR (cL (cR (cB Yk))))))) (Z1d.l0.s k))
theorem Z1d.ok (k:Nat):Ze Yb 173 (Z1d.con k):=fP (.two .auto (.two (.two .auto (.one (.sum (Z1d.l0.s k)))) .auto)) (Z1d.cok k) Ym (sC (Z1d.l0.ok k) sN)
def Zrp (k:Nat) (a1:List G45) (a2:Int):Option (Bool×Int):=Ya (Z1d k a1 a2) fun v3=>some (decide (0≤v3.1),v3.2)
def Zrp.con (k:Nat):Con:=Sig.con { ps:=[.val false (.sl T45) (ros (.sl T45)),.fn 129 [(2,(.int .i64),(Zze (.int .i64)))]],rs:=[.val false [.v .bool]],ntmps:=9 } (fun x=>Zrp k x.1 x.2)
theorem Zrp.ok (k:Nat):Ze Yb 128 (Zrp.con k):=fA (cX (cC (Z1d.ok k) cN)) Tryz.func128
def Z5q (a1:G45) (a2:Int):Option (Bool):=some ((a1.1 != 5)&&(a1.2.1==a2))
def Z5q.con (k:Nat):Con:=Sig.con { ps:=[.val true T45 (ros T45),.rptr (.int .i64)],rs:=[.val false [.v .bool]],ntmps:=13 } (fun x=>Z5q x.1 x.2)
theorem Z5q.ok (k:Nat):Ze Yb 174 (Z5q.con k):=fA (cX cN) Tryz.func174
def Z2d.l0:Nat→List G45→Int→Int→Int→Option (Int ⊕ (Int×Int))
 | 0,_,_,_,_=>none
 | j+1,a1,a2,a3,a4=>bif decide (a3<a2) then Ya (at? a1 a3) fun v5=>Ya (Z5q v5 a4) fun v6=>bif v6 then some (.inr (a3,a4)) else Z2d.l0 j a1 a2 (Yc .i64 (a3+1)) a4 else some (.inl a4)
def Z2d (k:Nat) (a1:List G45) (a2:Int):Option (Int×Int):=Ya (Z2d.l0 k a1 ((a1.length):Int) 0 a2) fun
  | .inl y3=>some ((-1),y3)
  | .inr y4=>some (y4.1,y4.2)
def Z2d.con (k:Nat):Con:=Sig.con { ps:=[.val false (.sl T45) (ros (.sl T45)),.fn 174 [(2,(.int .i64),(Zze (.int .i64)))]],rs:=[.val false [.v (.int .i64)]],ntmps:=19 } (fun x=>Z2d k x.1 x.2)
def Z2d.cok (k:Nat):=cX (cC (Z5q.ok k) cN)
def Z2d.l0.s (k:Nat):Summ:=lp 19 { tmps:=[(0,.one (.bor T45)),(1,.fn 174 [.ptr 0 0]),(7,.one (.v (.int .i64))),(8,.one (.v (.int .i64)))],slots:=[(0,.box 2 [.v (.int .i64)])],nb:=1 } [(.exit 0,{ tmps:=[],slots:=[(0,.box 2 [.v (.int .i64)])],nb:=1 }),(.ret,{ tmps:=[(4,.one (.v (.int .i64)))],slots:=[(0,.box 2 [.v (.int .i64)])],nb:=1 })] (fun j x=>Z2d.l0 j x.1 x.2.1 x.2.2.1 x.2.2.2) k
def Z2d.l0.ok (k:Nat):=(lA (Z2d.cok k):Zo Yb _ (.loop (cO (cO (cR (cL (cR (cB Yk))))))) (Z2d.l0.s k))
theorem Z2d.ok (k:Nat):Ze Yb 173 (Z2d.con k):=fP (.two .auto (.two (.two .auto (.one (.sum (Z2d.l0.s k)))) .auto)) (Z2d.cok k) Ym (sC (Z2d.l0.ok k) sN)
def Zep (k:Nat) (a1:List G45) (a2:Int):Option (Int):=Ya (Z2d k a1 a2) fun v3=>some v3.1
def Zep.con (k:Nat):Con:=Sig.con { ps:=[.val false (.sl T45) (ros (.sl T45)),.val false (.int .i64) (ros (.int .i64))],rs:=[.val false [.v (.int .i64)]],ntmps:=8 } (fun x=>Zep k x.1 x.2)
theorem Zep.ok (k:Nat):Ze Yb 130 (Zep.con k):=fA (cX (cC (Z2d.ok k) cN)) Tryz.func130
def Zbd.l0 (k:Nat):Nat→List G45→Int→Bool→List G45→Int→Int→Option (Bool ⊕ Int)
 | 0,_,_,_,_,_,_=>none
 | j+1,a1,a2,a3,a4,a5,a6=>bif decide (a6<a5) then Ya (at? a4 a6) fun v7=>let e8:=Yc .i64 (a6+1);bif v7.1 != 5 then Ya (Zep k a1 v7.2.1) fun v9=>bif decide (v9<a6) then some (.inr 12) else Zbd.l0 k j a1 a2 a3 a4 a5 e8 else Zbd.l0 k j a1 v7.2.2.1 (a3&&(decide (a2<v7.2.2.1))) a4 a5 e8 else some (.inl a3)
def Zbd (k:Nat) (a1:List G45) (a2:Int):Option (Int):=Ya (Zrj a2) fun v3=>bif (!v3)||(decide (20<((a1.length):Int))) then some 1 else Ya (Zrp k a1 a2) fun v4=>bif v4.1 then some 1 else Ya (Zbd.l0 k k a1 (-1) true a1 ((a1.length):Int) 0) fun
  | .inl y5=>bif !y5 then some 8 else some 0
  | .inr y6=>some y6
def Zbd.con (k:Nat):Con:=Sig.con { ps:=[.val false (.sl T45) (ros (.sl T45)),.val false (.int .i64) (ros (.int .i64))],rs:=[.val false [.v (.int .i64)]],ntmps:=50 } (fun x=>Zbd k x.1 x.2)
def Zbd.cok (k:Nat):=cX (cC (Zrj.ok k) (cC (Zrp.ok k) (cC (Zep.ok k) cN)))
def Zbd.l0.s (k:Nat):Summ:=lp 50 { tmps:=[(0,.one (.bor T45)),(5,.one (.v (.int .i64))),(6,.one (.v .bool)),(22,.one (.bor T45)),(23,.one (.v (.int .i64))),(24,.one (.v (.int .i64)))],slots:=[],nb:=1 } [(.exit 0,{ tmps:=[(6,.one (.v .bool))],slots:=[],nb:=1 }),(.ret,{ tmps:=[(4,.one (.v (.int .i64)))],slots:=[],nb:=1 })] (fun j x=>Zbd.l0 k j x.1 x.2.1 x.2.2.1 x.2.2.2.1 x.2.2.2.2.1 x.2.2.2.2.2) k
def Zbd.l0.ok (k:Nat):=(lA (Zbd.cok k):Zo Yb _ (.loop (cO (cO (cR (cL (cR (cR (cR (cR (cB Tryz.f66)))))))))) (Zbd.l0.s k))
theorem Zbd.ok (k:Nat):Ze Yb 66 (Zbd.con k):=fP (.two .auto (.two .auto (.two .auto (.two .auto (.two (.two .auto (.one (.sum (Zbd.l0.s k)))) .auto))))) (Zbd.cok k) Tryz.func66 (sC (Zbd.l0.ok k) sN)
def Z2k (a1:G45):Option (Bool):=some (a1.1==5)
def Z2k.con (k:Nat):Con:=Sig.con { ps:=[.val true T45 (ros T45)],rs:=[.val false [.v .bool]],ntmps:=6 } (fun x=>Z2k x)
theorem Z2k.ok (k:Nat):Ze Yb 156 (Z2k.con k):=fA (cX cN) Tryz.func156
def Z3d.l0:Nat→List G45→Int→Int→Option (Unit ⊕ Int)
 | 0,_,_,_=>none
 | j+1,a1,a2,a3=>bif decide (a3<a2) then Ya (at? a1 a3) fun v4=>Ya (Z2k v4) fun v5=>bif v5 then some (.inr a3) else Z3d.l0 j a1 a2 (Yc .i64 (a3+1)) else some (.inl ())
def Z3d (k:Nat) (a1:List G45):Option (Int):=Ya (Z3d.l0 k a1 ((a1.length):Int) 0) fun
  | .inl y2=>some (-1)
  | .inr y3=>some y3
def Z3d.con (k:Nat):Con:=Sig.con { ps:=[.val false (.sl T45) (ros (.sl T45)),.fn 156 []],rs:=[.val false [.v (.int .i64)]],ntmps:=19 } (fun x=>Z3d k x)
def Z3d.cok (k:Nat):=cX (cC (Z2k.ok k) cN)
def Z3d.l0.s (k:Nat):Summ:=lp 19 { tmps:=[(0,.one (.bor T45)),(1,.fn 156 []),(7,.one (.v (.int .i64))),(8,.one (.v (.int .i64)))],slots:=[],nb:=0 } [(.exit 0,{ tmps:=[],slots:=[],nb:=0 }),(.ret,{ tmps:=[(4,.one (.v (.int .i64)))],slots:=[],nb:=0 })] (fun j x=>Z3d.l0 j x.1 x.2.1 x.2.2) k
def Z3d.l0.ok (k:Nat):=(lA (Z3d.cok k):Zo Yb _ (.loop (cO (cO (cR (cL (cR (cB Yk))))))) (Z3d.l0.s k))
theorem Z3d.ok (k:Nat):Ze Yb 173 (Z3d.con k):=fP (.two .auto (.two (.two .auto (.one (.sum (Z3d.l0.s k)))) .auto)) (Z3d.cok k) Ym (sC (Z3d.l0.ok k) sN)
def Z2f.l0:Nat→Int→Int→List G45→Option ((Int×List G45))
 | 0,_,_,_=>none
 | j+1,a1,a2,a3=>bif decide (a2<((a3.length):Int)) then Ya (at? a3 a2) fun v4=>Ya (at? a3 a2) fun v5=>Ya (Z2k v5) fun v6=>let e7:=Yc .i64 (a2+1);bif !v6 then Ya (at? a3 a1) fun v8=>Ya (at? a3 a1) fun v9=>Z2f.l0 j (Yc .i64 (a1+1)) e7 (Yf a3 (Ye a1) v5) else Z2f.l0 j a1 e7 a3 else some (a1,a3)
def Z2f (k:Nat) (a1:List G45):Option (List G45):=Ya (Z3d k a1) fun v2=>bif v2==(-1) then some a1 else Ya (Z2f.l0 k v2 (Yc .i64 (v2+1)) a1) fun y3=>Ya (Z9p y3.1 (y3.2.length)) fun v4=>Ya (Z9b (List.take (Ye y3.1) y3.2++Yj (List.length y3.2-Ye y3.1) (0,(0,(0,[])))) 0 y3.1) fun v5=>some v5
def Z2f.con (k:Nat):Con:=Sig.con { ps:=[.mv 45 T45,.fn 156 []],rs:=[.val false [.v (.sl T45)]],ntmps:=42 } (fun x=>Z2f k x)
def Z2f.cok (k:Nat):=cXr false true (cC (Z2k.ok k) (cC (Z3d.ok k) cN))
def Z2f.l0.s (k:Nat):Summ:=lp 42 { tmps:=[(0,.one (.own 1)),(1,.fn 156 []),(5,.one (.v (.int .i64))),(6,.one (.v (.int .i64)))],slots:=[(1,.arr false 45 T45)],nb:=2 } [(.exit 0,{ tmps:=[(0,.one (.own 2)),(5,.one (.v (.int .i64)))],slots:=[(2,.arr false 45 T45)],nb:=3 })] (fun j x=>Z2f.l0 j x.1 x.2.1 x.2.2) k
def Z2f.l0.ok (k:Nat):=(lA (Z2f.cok k):Zo Yb _ (.loop (cO (cO (cR (cL (cR (cR (cR (cB Tryz.f154))))))))) (Z2f.l0.s k))
theorem Z2f.ok (k:Nat):Ze Yb 154 (Z2f.con k):=fP (.two .auto (.two .auto (.two .auto (.two (.two .auto (.one (.sum (Z2f.l0.s k)))) .auto)))) (Z2f.cok k) Tryz.func154 (sC (Z2f.l0.ok k) sN)
def Zcj (a:List G45):Option (List G45):=Ya (Zmb 40 [] a) fun y=>some y
def Zcj.sig:Sig:={ ps:=[.val false (.sl T45) (ros (.sl T45))],rs:=[.val false [.own 45 T45]],ntmps:=8 }
def Zcj.con (k:Nat):Con:=Zcj.sig.con (fun x=>Zcj x)
theorem Zcj.ok (k:Nat):Ze Yb 155 (Zcj.con k):=
 Zbx (e:=45) (C:={ ti:=TAB,con:=Zwk [] }) (s:=Zcj.sig) (G:=fun x=>Zcj x) (Z5r Zyr trivial) Tryz.func155 (by kernel_rfl) rfl (by kernel_rfl) (by kernel_rfl) (by kernel_rfl) rfl rfl rfl rfl rfl rfl (by kernel_rfl) (by kernel_rfl)
  (fun x=>⟨_,_,.inl rfl⟩) (fun x y h=>Eq.trans (b:=Zcj x) (by kernel_rfl) h) (fun x y h hl=>by
   have e:x=([]:List G45):=hl T45 x (.inl (by kernel_rfl));subst e;exact Eq.trans (b:=Zcj []) (by kernel_rfl) h)
def Z3i (k:Nat) (a1:List G45):Option (List G45):=Ya (Zcj a1) fun v2=>Ya (Z2f k v2) fun v3=>some v3
def Z3i.con (k:Nat):Con:=Sig.con { ps:=[.val false (.sl T45) (ros (.sl T45))],rs:=[.val false [.v (.sl T45)]],ntmps:=6 } (fun x=>Z3i k x)
theorem Z3i.ok (k:Nat):Ze Yb 102 (Z3i.con k):=fA (cX (cC (Z2f.ok k) (cC (Zcj.ok k) cN))) Tryz.func102
def Zqs (a1:G45) (a2:Int):Option (Bool):=some (((a1.1==3)||(a1.1==4))&&(a1.2.2.1==a2))
def Zqs.con (k:Nat):Con:=Sig.con { ps:=[.val true T45 (ros T45),.val false (.int .i64) (ros (.int .i64))],rs:=[.val false [.v .bool]],ntmps:=19 } (fun x=>Zqs x.1 x.2)
theorem Zqs.ok (k:Nat):Ze Yb 135 (Zqs.con k):=fA (cX cN) Tryz.func135
def Z8o (a1:Int) (a2:Int) (a3:List G45) (a4:Int):Option (Bool):=bif a1 != a2 then Ya (at? a3 a1) fun v5=>Ya (Zqs v5 a4) fun v6=>some v6 else some false
def Z8o.con (k:Nat):Con:=Sig.con { ps:=[.val false (.int .i64) (ros (.int .i64)),.rptr (.int .i64),.rptr (.sl T45),.rptr (.int .i64)],rs:=[.val false [.v .bool]],ntmps:=17 } (fun x=>Z8o x.1 x.2.1 x.2.2.1 x.2.2.2)
theorem Z8o.ok (k:Nat):Ze Yb 134 (Z8o.con k):=fA (cX (cC (Zqs.ok k) cN)) Tryz.func134
def Z4d.l0:Nat→List Int→List G45→Int→Int→Int→Int→Option ((Int×Int) ⊕ (Int×Int×Int))
 | 0,_,_,_,_,_,_=>none
 | j+1,a1,a2,a3,a4,a5,a6=>bif decide (a4<a3) then Ya (at? a1 a4) fun v7=>Ya (Z8o v7 a5 a2 a6) fun v8=>bif v8 then some (.inr (a4,a5,a6)) else Z4d.l0 j a1 a2 a3 (Yc .i64 (a4+1)) a5 a6 else some (.inl (a5,a6))
def Z4d (k:Nat) (a1:List Int) (a2:Int) (a3:List G45) (a4:Int):Option (Int×Int×Int):=Ya (Z4d.l0 k a1 a3 ((a1.length):Int) 0 a2 a4) fun
  | .inl y5=>some ((-1),y5.1,y5.2)
  | .inr y6=>some (y6.1,y6.2.1,y6.2.2)
def Z4d.con (k:Nat):Con:=Sig.con { ps:=[.val false (.sl (.int .i64)) (ros (.sl (.int .i64))),.fn 134 [(3,(.int .i64),(Zze (.int .i64))),(4000000,(.sl T45),[.ro]),(2,(.int .i64),(Zze (.int .i64)))]],rs:=[.val false [.v (.int .i64)]],ntmps:=19 } (fun x=>Z4d k x.1 x.2.1 x.2.2.1 x.2.2.2)
def Z4d.cok (k:Nat):=cX (cC (Z8o.ok k) cN)
def Z4d.l0.s (k:Nat):Summ:=lp 19 { tmps:=[(0,.one (.bor (.int .i64))),(1,.fn 134 [.ptr 0 0,.rp (.sl T45),.ptr 1 0]),(7,.one (.v (.int .i64))),(8,.one (.v (.int .i64)))],slots:=[(0,.box 3 [.v (.int .i64)]),(1,.box 2 [.v (.int .i64)])],nb:=2 } [(.exit 0,{ tmps:=[],slots:=[(0,.box 3 [.v (.int .i64)]),(1,.box 2 [.v (.int .i64)])],nb:=2 }),(.ret,{ tmps:=[(4,.one (.v (.int .i64)))],slots:=[(0,.box 3 [.v (.int .i64)]),(1,.box 2 [.v (.int .i64)])],nb:=2 })] (fun j x=>Z4d.l0 j x.1 x.2.1 x.2.2.1 x.2.2.2.1 x.2.2.2.2.1 x.2.2.2.2.2) k
def Z4d.l0.ok (k:Nat):=(lA (Z4d.cok k):Zo Yb _ (.loop (cO (cO (cR (cL (cR (cB Yq))))))) (Z4d.l0.s k))
theorem Z4d.ok (k:Nat):Ze Yb 131 (Z4d.con k):=fP (.two .auto (.two (.two .auto (.one (.sum (Z4d.l0.s k)))) .auto)) (Z4d.cok k) Yx (sC (Z4d.l0.ok k) sN)
def Zsp (k:Nat) (a1:List Int) (a2:Int) (a3:List G45) (a4:Int):Option (Bool×Int×Int):=Ya (Z4d k a1 a2 a3 a4) fun v5=>some (decide (0≤v5.1),v5.2.1,v5.2.2)
def Zsp.con (k:Nat):Con:=Sig.con { ps:=[.val false (.sl (.int .i64)) (ros (.sl (.int .i64))),.fn 134 [(3,(.int .i64),(Zze (.int .i64))),(4000000,(.sl T45),[.ro]),(2,(.int .i64),(Zze (.int .i64)))]],rs:=[.val false [.v .bool]],ntmps:=9 } (fun x=>Zsp k x.1 x.2.1 x.2.2.1 x.2.2.2)
theorem Zsp.ok (k:Nat):Ze Yb 133 (Zsp.con k):=fA (cX (cC (Z4d.ok k) cN)) Tryz.func133
def Z7o (k:Nat) (a1:Int) (a2:List G45) (a3:List Int) (a4:List Int):Option (Bool×List Int):=Ya (at? a2 a1) fun v5=>bif Zmf v5.2.1 a3 then some (true,a3) else Ya (Zsp k a4 a1 a2 v5.2.1) fun v6=>some (!v6.1,a3)
def Z7o.con (k:Nat):Con:=Sig.con { ps:=[.val false (.int .i64) (ros (.int .i64)),.rptr (.sl T45),.ref 161 (.sl (.int .i64)) [.own 1000161],.rptr (.sl (.int .i64))],rs:=[.val false [.v .bool]],ntmps:=21 } (fun x=>Z7o k x.1 x.2.1 x.2.2.1 x.2.2.2)
theorem Z7o.ok (k:Nat):Ze Yb 132 (Z7o.con k):=fA (cX (cC (Zsp.ok k) cN)) Tryz.func132
def Zsd.l0 (k:Nat):Nat→List Int→List Int→Int→Int→List G45→List Int→Option ((List G45×List Int) ⊕ (Int×List G45×List Int))
 | 0,_,_,_,_,_,_=>none
 | j+1,a1,a2,a3,a4,a5,a6=>bif decide (a4<a3) then Ya (at? a1 a4) fun v7=>Ya (Z7o k v7 a5 a6 a2) fun v8=>bif v8.1 then some (.inr (a4,a5,v8.2)) else Zsd.l0 k j a1 a2 a3 (Yc .i64 (a4+1)) a5 v8.2 else some (.inl (a5,a6))
def Zsd (k:Nat) (a1:List Int) (a2:List G45) (a3:List Int) (a4:List Int):Option (Int×List G45×List Int):=Ya (Zsd.l0 k k a1 a4 ((a1.length):Int) 0 a2 a3) fun
  | .inl y5=>some ((-1),y5.1,y5.2)
  | .inr y6=>some (y6.1,y6.2.1,y6.2.2)
def Zsd.con (k:Nat):Con:=Sig.con { ps:=[.val false (.sl (.int .i64)) (ros (.sl (.int .i64))),.fn 132 [(31,(.sl T45),(Zze (.sl T45))),(161,(.sl (.int .i64)),[.own 1000161]),(4000000,(.sl (.int .i64)),[.ro])]],rs:=[.val false [.v (.int .i64)]],ntmps:=19 } (fun x=>Zsd k x.1 x.2.1 x.2.2.1 x.2.2.2)
def Zsd.cok (k:Nat):=cX (cC (Z7o.ok k) cN)
def Zsd.l0.s (k:Nat):Summ:=lp 19 { tmps:=[(0,.one (.bor (.int .i64))),(1,.fn 132 [.ptr 0 0,.ptr 1 0,.rp (.sl (.int .i64))]),(7,.one (.v (.int .i64))),(8,.one (.v (.int .i64)))],slots:=[(0,.box 31 [.v (.sl T45)]),(1,.box 161 [.own 3]),(3,.arr false 1000161 (.int .i64))],nb:=4 } [(.exit 0,{ tmps:=[],slots:=[(0,.box 31 [.v (.sl T45)]),(1,.box 161 [.own 4]),(4,.arr false 1000161 (.int .i64))],nb:=5 }),(.ret,{ tmps:=[(4,.one (.v (.int .i64)))],slots:=[(0,.box 31 [.v (.sl T45)]),(1,.box 161 [.own 4]),(4,.arr false 1000161 (.int .i64))],nb:=5 })] (fun j x=>Zsd.l0 k j x.1 x.2.1 x.2.2.1 x.2.2.2.1 x.2.2.2.2.1 x.2.2.2.2.2) k
def Zsd.l0.ok (k:Nat):=(lA (Zsd.cok k):Zo Yb _ (.loop (cO (cO (cR (cL (cR (cB Yq))))))) (Zsd.l0.s k))
theorem Zsd.ok (k:Nat):Ze Yb 131 (Zsd.con k):=fP (.two .auto (.two (.two .auto (.one (.sum (Zsd.l0.s k)))) .auto)) (Zsd.cok k) Yx (sC (Zsd.l0.ok k) sN)
def slices_Delete_int (l:List Int) (i j:Int):Option (List Int):=if 0≤i∧i≤j∧j≤(l.length:Int) then some (l.take i.toNat++l.drop j.toNat) else none
def slices_Delete_int.con (k:Nat):Con:={ ms:=[.mv,.val [.ro],.val [.ro]],f:=fun xs=>match xs with
 | [.mv e (.int .i64) l,.val false [.leaf (.int .i64 i)],.val false [.leaf (.int .i64 j)]]=>bif Nat.beq e 3 then .opt (List Int) (slices_Delete_int l i j) fun r=>⟨[.val false [.own e (.int .i64) r]],[]⟩ else .fail
 | _=>.fail }
theorem slices_Delete_int.drew (w:World) (q:Nat):(w.drewN q).heap=w.heap∧(w.drewN q).os=w.os∧(w.drewN q).tape=w.tape∧(w.drewN q).output=w.output:=⟨rfl,rfl,rfl,rfl⟩
theorem slices_Delete_int.ok (k:Nat):Ze Yb 136 (slices_Delete_int.con k):=by
 refine ⟨(Zu1 Tryz.func136 (by kernel_rfl) (show Yr.body=some (cB Yr) by kernel_rfl)),?_⟩
 intro xs rr hrr w vs F L M hF hnd hgl hargs
 unfold slices_Delete_int.con at hrr
 dsimp only at hrr
 split at hrr
 ·rename_i e l i j
  cases he:Nat.beq e 3 with
  | false=>rw [he] at hrr;cases hrr
  | true=>
  rw [he] at hrr;have hm:Z2 e=false:=by rw [Nat.eq_of_beq_eq_true he];rfl
  replace hrr:(slices_Delete_int l i j).map (fun r=>(⟨[.val false [.own e (.int .i64) r]],[]⟩:RR))=some rr:=hrr;unfold slices_Delete_int at hrr;split at hrr
  ·rename_i hij
   obtain ⟨h0,h1,h2⟩:=hij;cases hrr
   match vs,hargs with
   | [v1,v2,v3],⟨_,_,_,_,hL,hM,⟨rfl,rfl,hrow⟩,_,_,_,_,hL2,hM2,⟨rfl,hv2,hn2⟩,_,_,_,_,hL3,hM3,⟨rfl,hv3,hn3⟩,hn4,hn5⟩=>
   have hv2:v2 = .int .i64 i:=hv2;have hv3:v3 = .int .i64 j:=hv3;subst hv2;subst hv3;subst hn2;subst hn3;subst hn4;subst hn5;subst hL3;subst hM3;subst hL2;subst hM2;subst hL;subst hM;obtain ⟨a,rfl⟩:∃a:Nat,i=(a:Int):=⟨i.toNat,by omega⟩;obtain ⟨b,rfl⟩:∃b:Nat,j=(b:Int):=⟨j.toNat,by omega⟩;rw [Yn,Yn];rcases hrow.slice hm with ⟨rfl,rfl⟩ | ⟨g,cap,cs,fr,rfl,hh,hun,hfz,hlc,hcs,hcells⟩
   ·have hb0:b=0:=by
     have:(([]:List Int).length:Int)=0:=rfl;have h2:(b:Int)≤(([]:List Int).length:Int):=h2;omega
    have ha0:a=0:=by omega
    subst hb0;subst ha0;refine (Tryz.slices_Delete_int_empty none 0 w).mono ?_;rintro e' w' ⟨rfl,rfl⟩;refine ⟨_,rfl,⟨rfl,rfl,rfl,Yh _,fun _ _ _=>rfl⟩,[],[.row (.slice none 0 0)],?_,Yp,rfl,rfl,Z8b.ok (.inl ⟨rfl,rfl⟩) hm,rfl⟩;intro c hc q hq;rw [Yg.1 hc] at hq;cases hq
   ·have hsz:(Ty.int IntKind.i64).sz=1:=rfl
    rw [hsz,Yi] at hcs;have hab:a≤b:=by omega
    have hbl:b≤l.length:=by omega
    obtain ⟨rfl,hcapm⟩:=hfz rfl
    have hcell:∀q,q<l.length→w.cell? ⟨g,0+q,none⟩=some (.int .i64 (l.getD q 0)):=by
     intro q hq;have h3:=hcells q l[q] (Yo hq);have h3:(cs.toList.drop (q*1)).take 1=[.int .i64 l[q]]:=h3;rw [Yi] at h3
     have h4:cs.toList[q]? = some (.int .i64 l[q]):=by
      have:=congrArg (fun z=>z[0]?) h3;simpa using this
     rw [cell_of_row w g (0+q) cs e (0,0) hh,Nat.zero_add,← Array.getElem?_toList,h4,List.getD_eq_getElem?_getD,Yo hq];rfl
    refine (Tryz.slices_Delete_int_cells g 0 l.length cap a b l w (Yh _) hlc (by unfold maxLen at hcapm;omega) hab hbl hcell (fun q hq=>by
     simp only [World.frozen?,hh];simp)).mono ?_
    rintro e' w' ⟨rfl,q,rfl⟩;rw [List.take_of_length_le (Yh l.length)];obtain ⟨d1,d2,d3,d4⟩:=slices_Delete_int.drew w q;generalize hvs:((l.take a++l.drop b++Yj (b-a) (0:Int)).map (Value.int .i64))=us;have hul:us.length=l.length:=by rw [← hvs];simp;omega
    obtain ⟨r1,r2,r3,r4⟩:=Z84 g us 0 (w.drewN q);have hh':(w.drewN q).heap[g]? = some (.cells cs e (0,0)):=by rw [d1];exact hh
    have hblk:=Zkr g us 0 cs (w.drewN q) hh' (by omega);have hgl:g<w.heap.size:=(Array.getElem?_eq_some_iff.1 hh).1;have hres:(l.take a++l.drop b).length=l.length-(b-a):=by simp;omega
    refine ⟨_,rfl,⟨r1.trans d2,r2.trans d3,r3.trans d4,by rw [r4,d1];exact Yh _,fun x hx hn=>?_⟩,[],[.row (.slice (some ⟨g,0,none⟩) (l.length-(b-a)) cap)],?_,?_,rfl,rfl,Z8b.ok (.inr ⟨g,cap,_,(0,0),by rw [hres],hblk,.inl rfl,fun _=>⟨rfl,hcapm⟩,by rw [hres];omega,?_,?_⟩) hm,rfl⟩
    ·rw [Zsz g us 0 (w.drewN q) x (fun ex=>hn (by subst ex;exact Yg.2 rfl)),d1]
    ·intro c hc x hx
     rw [Yg.1 hc] at hx;cases hx;exact ⟨.inl (Yg.2 rfl),by rw [r4,d1];exact hgl⟩
    ·exact List.nodup_cons.2 ⟨(fun h=>nomatch h),Yp⟩
    ·rw [List.size_toArray,Zdr _ _ _ (by simp;omega),Array.length_toList,hcs,hsz,Yi]
    ·intro x y hx
     show ((overL cs.toList 0 us).toArray.toList.drop (x*1)).take 1=[.int .i64 y];have hxl:=(List.getElem?_eq_some_iff.1 hx).1
     have hus:us[x]? = some (.int .i64 y):=by
      rw [← hvs,List.getElem?_map,List.getElem?_append_left hxl,hx];rfl
     rw [Yi,List.toList_toArray];apply List.ext_getElem?;intro m;rw [List.getElem?_take,List.getElem?_drop,Zyl _ _ _ (by simp;omega)];cases m with
     | zero=>
      rw [Xc (by omega),Xd (by omega),Xc (by omega),Nat.add_zero,Nat.sub_zero,hus];rfl
     | succ m=>rw [Xd (by omega)];rfl
  ·cases hrr
 ·cases hrr
def Zpb.l0:Nat→Int→Int→List Int→Option ((List Int))
 | 0,_,_,_=>none
 | j+1,a1,a2,a3=>bif decide (a2<a1) then Ya (at? a3 a2) fun v4=>Ya (at? a3 a2) fun v5=>Zpb.l0 j a1 (Yc .i64 (a2+1)) (Yf a3 (Ye a2) a2) else some a3
def Zpb.l1 (k:Nat):Nat→List G45→List G96→List Int→List Int→Option ((List G45×List G96×List Int×List Int))
 | 0,_,_,_,_=>none
 | j+1,a1,a2,a3,a4=>bif decide (0<((a3.length):Int)) then Ya (Zsd k a3 a1 a4 a3) fun v5=>bif decide (v5.1<0) then Ya (at? a3 0) fun v6=>Ya (at? a3 0) fun v7=>let e8:=at? v5.2.1 v7;Ya (e8) fun v9=>Ya (Zmb 32 a2 [(1,(v7,(v9.2.1,((v5.2.2.length):Int))))]) fun v10=>Ya (e8) fun v11=>Zpb.l1 k j v5.2.1 v10 a3 (Z7c v11.2.1 v5.2.2) else let e12:=at? a3 v5.1;Ya (e12) fun v13=>Ya (e12) fun v14=>Ya (at? v5.2.1 v14) fun v15=>Ya (Zmb 32 a2 [(2,(v14,(v15.2.1,0)))]) fun v16=>Ya (slices_Delete_int a3 v5.1 (Yc .i64 (v5.1+1))) fun v17=>Zpb.l1 k j v5.2.1 v16 v17 v5.2.2 else some (a1,a2,a3,a4)
def Zpb (k:Nat) (a1:List G45):Option (List G96):=Ya (Z3i k a1) fun v2=>Ya (Zrg 8 ((v2.length):Int) ((v2.length):Int) 0) fun v3=>Ya (Zpb.l0 k ((v3.length):Int) 0 v3) fun y4=>Ya (Zpb.l1 k k v2 [] y4 []) fun y5=>some y5.2.1
def Zpb.con (k:Nat):Con:=Sig.con { ps:=[.val false (.sl T45) (ros (.sl T45))],rs:=[.val false [.own 96 T96]],ntmps:=76 } (fun x=>Zpb k x)
def Zpb.cok (k:Nat):=cX (cC (Z3i.ok k) (cC (Zsd.ok k) (cC (slices_Delete_int.ok k) cN)))
def Zpb.l0.s (k:Nat):Summ:=lp 76 { tmps:=[(4,.one (.ptr 2 0)),(17,.one (.v (.int .i64))),(18,.one (.v (.int .i64)))],slots:=[(2,.box 160 [.own 3]),(3,.arr false 3 (.int .i64))],nb:=4 } [(.exit 0,{ tmps:=[],slots:=[(2,.box 160 [.own 4]),(4,.arr false 3 (.int .i64))],nb:=5 })] (fun j x=>Zpb.l0 j x.1 x.2.1 x.2.2) k
def Zpb.l0.ok (k:Nat):=(lA (Zpb.cok k):Zo Yb _ (.loop (cO (cO (cR (cL (cR (cR (cR (cB Yu))))))))) (Zpb.l0.s k))
def Zpb.l1.s (k:Nat):Summ:=lp 76 { tmps:=[(3,.one (.ptr 0 0)),(4,.one (.ptr 2 0)),(6,.one (.ptr 6 0)),(7,.one (.own 7))],slots:=[(0,.box 31 [.v (.sl T45)]),(2,.box 160 [.own 8]),(6,.box 161 [.own 9]),(7,.arr false 96 T96),(8,.arr false 3 (.int .i64)),(9,.arr false 1000161 (.int .i64))],nb:=10 } [(.exit 2,{ tmps:=[(7,.one (.own 10))],slots:=[(0,.box 31 [.v (.sl T45)]),(2,.box 160 [.own 11]),(6,.box 161 [.own 12]),(10,.arr false 96 T96),(11,.arr false 3 (.int .i64)),(12,.arr false 1000161 (.int .i64))],nb:=13 })] (fun j x=>Zpb.l1 k j x.1 x.2.1 x.2.2.1 x.2.2.2) k
def Zpb.l1.ok (k:Nat):=(lA (Zpb.cok k):Zo Yb _ (.loop (cO (cO (cL (cR (cR (cR (cR (cR (cR (cB Yu))))))))))) (Zpb.l1.s k))
theorem Zpb.ok (k:Nat):Ze Yb 67 (Zpb.con k):=fP (.two .auto (.two .auto (.two .auto (.two (.two .auto (.one (.sum (Zpb.l0.s k)))) (.two .auto (.two .auto (.two (.one (.sum (Zpb.l1.s k))) .auto))))))) (Zpb.cok k) Tryz.func67 (sC (Zpb.l0.ok k) (sC (Zpb.l1.ok k) sN))
def Zme.l0:Nat→Int→List G96→Int→Int→Option (Int)
 | 0,_,_,_,_=>none
 | j+1,a1,a2,a3,a4=>bif decide (a4<a3) then Ya (at? a2 a4) fun v5=>let e6:=Yc .i64 (a4+1);bif v5.1==1 then Zme.l0 j (Yc .i64 (a1+1)) a2 a3 e6 else Zme.l0 j a1 a2 a3 e6 else some a1
def Zme (k:Nat) (a1:List G96):Option (Int):=Ya (Zme.l0 k 0 a1 ((a1.length):Int) 0) fun y2=>some y2
def Zme.con (k:Nat):Con:=Sig.con { ps:=[.val false (.sl T96) (ros (.sl T96))],rs:=[.val false [.v (.int .i64)]],ntmps:=19 } (fun x=>Zme k x)
def Zme.cok (k:Nat):=cX cN
def Zme.l0.s (k:Nat):Summ:=lp 19 { tmps:=[(3,.one (.v (.int .i64))),(6,.one (.bor T96)),(7,.one (.v (.int .i64))),(8,.one (.v (.int .i64)))],slots:=[],nb:=0 } [(.exit 0,{ tmps:=[(3,.one (.v (.int .i64)))],slots:=[],nb:=0 })] (fun j x=>Zme.l0 j x.1 x.2.1 x.2.2.1 x.2.2.2) k
def Zme.l0.ok (k:Nat):=(lA (Zme.cok k):Zo Yb _ (.loop (cO (cO (cR (cL (cR (cR (cB Tryz.f68)))))))) (Zme.l0.s k))
theorem Zme.ok (k:Nat):Ze Yb 68 (Zme.con k):=fP (.two .auto (.two .auto (.two (.two .auto (.one (.sum (Zme.l0.s k)))) .auto))) (Zme.cok k) Tryz.func68 (sC (Zme.l0.ok k) sN)
def Z0k (a1:List G96):Option (Int):=some ((a1.length):Int)
def Z0k.con (k:Nat):Con:=Sig.con { ps:=[.val false (.sl T96) (ros (.sl T96))],rs:=[.val false [.v (.int .i64)]],ntmps:=5 } (fun x=>Z0k x)
theorem Z0k.ok (k:Nat):Ze Yb 69 (Z0k.con k):=fA (cX cN) Tryz.func69
def Zii (k:Nat) (a1:G28):Option (Bool):=Ya (Zpf k a1) fun v2=>bif !v2.2.2.2.2.2.2.2.2 then some false else Ya (Zhd k a1) fun v3=>Ya (Zzk k v3) fun v4=>bif !v4 then some false else bif (v2.1==1)||(v2.1==2) then some true else Ya (Z4c k a1 (v2.1,(v2.2.1,(v2.2.2.1,(v2.2.2.2.1,(v2.2.2.2.2.1,(v2.2.2.2.2.2.1,(v2.2.2.2.2.2.2.1,v2.2.2.2.2.2.2.2.1)))))))) fun v5=>Ya (Zbd k v5 a1.1) fun v6=>bif v6 != 0 then some false else Ya (Zpb k v5) fun v7=>Ya (Zme k v7) fun v8=>bif decide (v8≤v2.2.2.2.1) then Ya (Z0k v7) fun v9=>some (decide (v2.2.2.2.2.1≤v9)) else some false
def Zii.con (k:Nat):Con:=Sig.con { ps:=[.val true T28 (ros T28)],rs:=[.val false [.v .bool]],ntmps:=50 } (fun x=>Zii k x)
theorem Zii.ok (k:Nat):Ze Yb 31 (Zii.con k):=fA (cXr true false (cC (Zzk.ok k) (cC (Zpf.ok k) (cC (Zhd.ok k) (cC (Z4c.ok k) (cC (Zbd.ok k) (cC (Zpb.ok k) (cC (Zme.ok k) (cC (Z0k.ok k) cN))))))))) Tryz.func31
def Z4l (a1:G47):Option (Bool):=let e2:=(a1.2.2.2.2.1==0)&&((a1.2.2.2.2.2.1==0)&&((a1.2.2.2.2.2.2.1==0)&&(a1.2.2.2.2.2.2.2==[])));bif a1.1==1 then Ya (Zjb a1.2.1 1 20) fun v3=>Ya (Zjb a1.2.2.1 0 4) fun v4=>Ya (Zjb a1.1 1 11) fun v5=>some ((((v5&&v3)&&v4)&&(((a1.2.2.2.1.length):Int)==32))&&e2) else let e6:=a1.2.1==0;let e7:=a1.2.2.1==0;let e8:=a1.2.2.2.1==[];bif a1.1==2 then Ya (Ztc a1.2.2.2.2 8) fun v9=>Ya (Zjb a1.1 1 11) fun v10=>some ((((v10&&e6)&&e7)&&e8)&&v9) else bif a1.1==9 then Ya (Zjb a1.2.1 1 24) fun v11=>Ya (Zjb a1.1 1 11) fun v12=>some ((((v12&&v11)&&e7)&&e8)&&e2) else bif a1.1==7 then Ya (Z2h a1.2.1) fun v13=>Ya (Zjb a1.1 1 11) fun v14=>some ((((v14&&v13)&&e7)&&e8)&&e2) else Ya (Zjb a1.1 1 11) fun v15=>some ((((v15&&e6)&&e7)&&e8)&&e2)
def Z4l.con (k:Nat):Con:=Sig.con { ps:=[.val true T47 (ros T47)],rs:=[.val false [.v .bool]],ntmps:=64 } (fun x=>Z4l x)
theorem Z4l.ok (k:Nat):Ze Yb 32 (Z4l.con k):=fA (cX (cC (Zjb.ok k) (cC (Ztc.ok k) (cC (Z2h.ok k) cN)))) Tryz.func32
def Zyk (k:Nat) (a1:G28) (a2:G58):Option (List G96):=Ya (Z4c k a1 a2) fun v3=>Ya (Zbd k v3 a1.1) fun v4=>bif v4 != 0 then some ([]) else Ya (Zpb k v3) fun v5=>some v5
def Zyk.con (k:Nat):Con:=Sig.con { ps:=[.val true T28 (ros T28),.val true T58 (ros T58)],rs:=[.val false [.own 96 T96]],ntmps:=16 } (fun x=>Zyk k x.1 x.2)
theorem Zyk.ok (k:Nat):Ze Yb 36 (Zyk.con k):=fA (cXr true false (cC (Z4c.ok k) (cC (Zbd.ok k) (cC (Zpb.ok k) cN)))) Tryz.func36
def Zke (k:Nat) (a1:G28) (a2:G58):Option (List Zyg):=Ya (Z1k k a2) fun v3=>Ya (Z6l k a1.2 v3) fun v4=>some v4
def Zke.con (k:Nat):Con:=Sig.con { ps:=[.val true T28 (ros T28),.val true T58 (ros T58)],rs:=[.val false [.own 108 Zte]],ntmps:=10 } (fun x=>Zke k x.1 x.2)
theorem Zke.ok (k:Nat):Ze Yb 77 (Zke.con k):=fA (cXr true false (cC (Z6l.ok k) (cC (Z1k.ok k) cN))) Tryz.func77
def Zdj (a:List Int):Option (List Int):=Ya (Zmb 8 [] a) fun y=>some y
def Zdj.sig:Sig:={ ps:=[.val false (.sl (.int .i64)) (ros (.sl (.int .i64)))],rs:=[.val false [.own 2 (.int .i64)]],ntmps:=8 }
def Zdj.con (k:Nat):Con:=Zdj.sig.con (fun x=>Zdj x)
theorem Zdj.ok (k:Nat):Ze Yb 140 (Zdj.con k):=
 Zbx (e:=2) (C:={ ti:=TAB,con:=Zwk [] }) (s:=Zdj.sig) (G:=fun x=>Zdj x) (Z5r Zyr trivial) Tryz.func140 (by kernel_rfl) rfl (by kernel_rfl) (by kernel_rfl) (by kernel_rfl) rfl rfl rfl rfl rfl rfl (by kernel_rfl) (by kernel_rfl)
  (fun x=>⟨_,_,.inl rfl⟩) (fun x y h=>Eq.trans (b:=Zdj x) (by kernel_rfl) h) (fun x y h hl=>by
   have e:x=([]:List Int):=hl (.int .i64) x (.inl (by kernel_rfl));subst e;exact Eq.trans (b:=Zdj []) (by kernel_rfl) h)
def Z2i (a1:G58):Option (Int×Int×Int×Int×Int×Str×List Int×List Int):=Ya (Zdj a1.2.2.2.2.2.2.1) fun v2=>some (1,0,0,0,0,[],v2,[])
def Z2i.con (k:Nat):Con:=Sig.con { ps:=[.val true T58 (ros T58)],rs:=[.val true [.v (.int .i64),.v (.int .i64),.v (.int .i64),.v (.int .i64),.v (.int .i64),.v .str,.own 2 (.int .i64),.own 2 (.int .i64)]],ntmps:=7 } (fun x=>Z2i x)
theorem Z2i.ok (k:Nat):Ze Yb 78 (Z2i.con k):=fA (cXr true false (cC (Zdj.ok k) cN)) Tryz.func78
def Zle.l0:Nat→Int→List G45→Int→Int→Option (Int)
 | 0,_,_,_,_=>none
 | j+1,a1,a2,a3,a4=>bif decide (a4<a3) then Ya (at? a2 a4) fun v5=>let e6:=Yc .i64 (a4+1);bif v5.1==5 then Zle.l0 j e6 a2 a3 e6 else Zle.l0 j a1 a2 a3 e6 else some a1
def Zle (k:Nat) (a1:List G45):Option (Int):=Ya (Zle.l0 k 0 a1 ((a1.length):Int) 0) fun y2=>some y2
def Zle.con (k:Nat):Con:=Sig.con { ps:=[.val false (.sl T45) (ros (.sl T45))],rs:=[.val false [.v (.int .i64)]],ntmps:=20 } (fun x=>Zle k x)
def Zle.cok (k:Nat):=cX cN
def Zle.l0.s (k:Nat):Summ:=lp 20 { tmps:=[(3,.one (.v (.int .i64))),(6,.one (.bor T45)),(7,.one (.v (.int .i64))),(8,.one (.v (.int .i64)))],slots:=[],nb:=0 } [(.exit 0,{ tmps:=[(3,.one (.v (.int .i64)))],slots:=[],nb:=0 })] (fun j x=>Zle.l0 j x.1 x.2.1 x.2.2.1 x.2.2.2) k
def Zle.l0.ok (k:Nat):=(lA (Zle.cok k):Zo Yb _ (.loop (cO (cO (cR (cL (cR (cR (cB Tryz.f81)))))))) (Zle.l0.s k))
theorem Zle.ok (k:Nat):Ze Yb 81 (Zle.con k):=fP (.two .auto (.two .auto (.two (.two .auto (.one (.sum (Zle.l0.s k)))) .auto))) (Zle.cok k) Tryz.func81 (sC (Zle.l0.ok k) sN)
def Z6o (k:Nat) (a1:Str) (a2:Int):Option (Bool×Int×Str):=Ya (Zck k a1) fun v3=>Ya (Zfc k (v3.1,(0,false))) fun v4=>Ya (Zfc k v4.2) fun v5=>Ya (Zpg k v5.2) fun v6=>bif (((v3.2 != 0)||v6.2.2.2)||(v6.2.2.1 != ((v3.1.length):Int)))||(v4.1 != a2) then some (true,0,[]) else Ya (Z2h a2) fun v7=>bif !v7 then some (true,0,[]) else Ya (Zjb v5.1 0 39) fun v8=>bif (!v8)||(((v6.1.length):Int) != 8) then some (true,0,[]) else some (false,v5.1,v6.1)
def Z6o.con (k:Nat):Con:=Sig.con { ps:=[.val false .str (ros .str),.val false (.int .i64) (ros (.int .i64))],rs:=[.val true [.v .bool,.v (.int .i64),.v .str]],ntmps:=66 } (fun x=>Z6o k x.1 x.2)
theorem Z6o.ok (k:Nat):Ze Yb 95 (Z6o.con k):=fA (cX (cC (Zjb.ok k) (cC (Z2h.ok k) (cC (Zfc.ok k) (cC (Zpg.ok k) (cC (Zck.ok k) cN)))))) Tryz.func95
def Z9c.l0 (k:Nat):Nat→List Int→Int→Int→Int→List Str→List Zz→List Zyg→Option ((Int×List Str×List Zz×List Zyg))
 | 0,_,_,_,_,_,_,_=>none
 | j+1,a1,a2,a3,a4,a5,a6,a7=>bif decide (a3<a2) then Ya (at? a1 a3) fun v8=>let e9:=(a4,(a5,a6));Ya (Zzi k e9 v8) fun v10=>let e11:=Yc .i64 (a3+1);bif !(v10==[]) then Ya (Zgh e9 v8) fun v12=>Ya (Zmb 32 a7 ([(false,(v12,[]))])) fun v13=>Z9c.l0 k j a1 a2 e11 a4 a5 a6 v13 else Z9c.l0 k j a1 a2 e11 a4 a5 a6 a7 else some (a4,a5,a6,a7)
def Z9c (k:Nat) (a1:G28) (a2:G58):Option (List Zyg):=let e3:=(true,(0,[]));bif a2.1==2 then Ya (Z4c k a1 a2) fun v4=>Ya (Zle k v4) fun v5=>Ya (Z9b a2.2.2.2.2.2.2.2 (Yc .i64 (a2.2.2.2.1+v5)) ((a2.2.2.2.2.2.2.2.length):Int)) fun v6=>Ya (Z9c.l0 k k v6 ((v6.length):Int) 0 a1.1 a1.2.1 a1.2.2 []) fun y7=>bif decide (0<((y7.2.2.2.length):Int)) then Ya (Zmb 32 y7.2.2.2 [e3]) fun v8=>some v8 else some y7.2.2.2 else bif a2.1==3 then Ya (Zke k a1 (4,(2,a2.2.2))) fun v9=>some v9 else bif a2.1==4 then bif a2.2.1==0 then Ya (Z2i a2) fun v10=>Ya (Zke k a1 v10) fun v11=>some v11 else Ya (Zke k a1 (a2.1,((Yc .i64 (a2.2.1-1)),a2.2.2))) fun v12=>some v12 else bif a2.1==5 then Ya (Z0f k a1.2 2) fun v13=>Ya (Z6o k v13 a2.2.2.2.2.1) fun v14=>bif v14.1||(a2.2.2.2.2.1==40) then some ([]) else Ya (Z2l a1.2 v14.2.1) fun v15=>bif !v15 then some ([]) else Ya (Zke k a1 (a2.1,(a2.2.1,(a2.2.2.1,(a2.2.2.2.1,((Yc .i64 (a2.2.2.2.2.1+1)),a2.2.2.2.2.2)))))) fun v16=>Ya (Zmb 32 [v14,e3] v16) fun v17=>some v17 else some ([])
def Z9c.con (k:Nat):Con:=Sig.conR { ps:=[.val true T28 (Zze T28),.val true T58 (ros T58)],rs:=[.val false [.own 108 Zte]],ntmps:=105 } (fun x=>Z9c k x.1 x.2)
def Z9c.cok (k:Nat):=cX (cC (Z4c.ok k) (cC (Zke.ok k) (cC (Z2i.ok k) (cC (Zle.ok k) (cC (Zzi.ok k) (cC (Zgh.ok k) (cC (Z6o.ok k) (cC (Z0f.ok k) (cC (Z2l.ok k) cN)))))))))
def Z9c.l0.s (k:Nat):Summ:=lp 105 { tmps:=[(2,.one (.ptr 0 0)),(5,.one (.own 3)),(22,.one (.bor (.int .i64))),(23,.one (.v (.int .i64))),(24,.one (.v (.int .i64)))],slots:=[(0,.box 28 [.v (.int .i64),.v (.sl .str),.v (.sl Zx)]),(3,.arr false 108 Zte)],nb:=4 } [(.exit 1,{ tmps:=[(5,.one (.own 4))],slots:=[(0,.box 28 [.v (.int .i64),.v (.sl .str),.v (.sl Zx)]),(4,.arr false 108 Zte)],nb:=5 })] (fun j x=>Z9c.l0 k j x.1 x.2.1 x.2.2.1 x.2.2.2.1 x.2.2.2.2.1 x.2.2.2.2.2.1 x.2.2.2.2.2.2) k
def Z9c.l0.ok (k:Nat):=(lA (Z9c.cok k):Zo Yb _ (.loop (cO (cO (cR (cL (cR (cL (cR (cO (cR (cL (cR (cB Tryz.f38))))))))))))) (Z9c.l0.s k))
theorem Z9c.ok (k:Nat):Ze Yb 38 (Z9c.con k):=Zf1 (fP (.two .auto (.two (.two .auto (.one (.two .auto (.two (.two .auto (.two (.two .auto (.one (.sum (Z9c.l0.s k)))) .auto)) .auto)))) .auto)) (Z9c.cok k) Tryz.func38 (sC (Z9c.l0.ok k) sN))
def Zqf.l0:Nat→Str→Int→Int→List Int→Option ((List Int))
 | 0,_,_,_,_=>none
 | j+1,a1,a2,a3,a4=>bif decide (a3<a2) then Ya (at? a4 a3) fun v5=>Ya (at? a4 a3) fun v6=>Ya (at? a1 a3) fun v7=>Ya (at? a4 a3) fun v8=>Ya (at? a4 a3) fun v9=>Zqf.l0 j a1 a2 (Yc .i64 (a3+1)) (Yf a4 (Ye a3) (intBits .xor .u8 v6 (v7.toNat:Int))) else some a4
def Zqf (k:Nat) (a1:Str) (a2:Str):Option (Str):=Ya (Zvv (a1.length) 1) fun v3=>Ya (Zqf.l0 k a2 (((Zfb a1).length):Int) 0 (Zfb a1)) fun y4=>some (Znb y4)
def Zqf.con (k:Nat):Con:=Sig.con { ps:=[.val false .str (ros .str),.val false .str (ros .str)],rs:=[.val false [.v .str]],ntmps:=26 } (fun x=>Zqf k x.1 x.2)
def Zqf.cok (k:Nat):=cX cN
def Zqf.l0.s (k:Nat):Summ:=lp 26 { tmps:=[(1,.one (.v .str)),(5,.one (.own 1)),(10,.one (.v (.int .i64))),(11,.one (.v (.int .i64)))],slots:=[(1,.arr true 5 (.int .u8))],nb:=2 } [(.exit 0,{ tmps:=[(5,.one (.own 2))],slots:=[(2,.arr true 5 (.int .u8))],nb:=3 })] (fun j x=>Zqf.l0 j x.1 x.2.1 x.2.2.1 x.2.2.2) k
def Zqf.l0.ok (k:Nat):=(lA (Zqf.cok k):Zo Yb _ (.loop (cO (cO (cR (cL (cR (cR (cB Tryz.f182)))))))) (Zqf.l0.s k))
theorem Zqf.ok (k:Nat):Ze Yb 182 (Zqf.con k):=fP (.two .auto (.two .auto (.two (.two .auto (.one (.sum (Zqf.l0.s k)))) .auto))) (Zqf.cok k) Tryz.func182 (sC (Zqf.l0.ok k) sN)
def Z5l (k:Nat) (a1:G45) (a2:Str):Option (Str):=bif a1.1==1 then some ([0,0,0,0,0,0,0,0]:Str) else bif a1.1==2 then some a1.2.2.2 else bif a1.1==3 then some a2 else Ya (Zqf k a2 a1.2.2.2) fun v3=>some v3
def Z5l.con (k:Nat):Con:=Sig.con { ps:=[.val true T45 (ros T45),.val false .str (ros .str)],rs:=[.val false [.v .str]],ntmps:=20 } (fun x=>Z5l k x.1 x.2)
theorem Z5l.ok (k:Nat):Ze Yb 152 (Z5l.con k):=fA (cX (cC (Zqf.ok k) cN)) Tryz.func152
def Zxe.l0 (k:Nat):Nat→List Str→List G45→Int→Int→List Str→Option ((List Str))
 | 0,_,_,_,_,_=>none
 | j+1,a1,a2,a3,a4,a5=>bif decide (a4<a3) then Ya (at? a2 a4) fun v6=>Ya (at? a1 v6.2.2.1) fun v7=>Ya (Z5l k v6 v7) fun v8=>let e9:=at? a5 v6.2.1;Ya (e9) fun v10=>Ya (e9) fun v11=>Zxe.l0 k j a1 a2 a3 (Yc .i64 (a4+1)) (Yf a5 (Ye v6.2.1) v8) else some a5
def Zxe (k:Nat) (a1:List Str) (a2:List G45):Option (List Str):=Ya (slices_Clone_string a1) fun v3=>Ya (Z3i k a2) fun v4=>Ya (Zxe.l0 k k a1 v4 ((v4.length):Int) 0 v3) fun y5=>some y5
def Zxe.con (k:Nat):Con:=Sig.con { ps:=[.val false (.sl .str) (ros (.sl .str)),.val false (.sl T45) (ros (.sl T45))],rs:=[.val false [.own 9 .str]],ntmps:=30 } (fun x=>Zxe k x.1 x.2)
def Zxe.cok (k:Nat):=cX (cC (Z3i.ok k) (cC (slices_Clone_string.ok k) (cC (Z5l.ok k) cN)))
def Zxe.l0.s (k:Nat):Summ:=lp 30 { tmps:=[(0,.one (.bor .str)),(5,.one (.own 1)),(11,.one (.v (.sl T45))),(12,.one (.v (.int .i64))),(13,.one (.v (.int .i64)))],slots:=[(1,.arr false 9 .str)],nb:=2 } [(.exit 0,{ tmps:=[(5,.one (.own 2))],slots:=[(2,.arr false 9 .str)],nb:=3 })] (fun j x=>Zxe.l0 k j x.1 x.2.1 x.2.2.1 x.2.2.2.1 x.2.2.2.2) k
def Zxe.l0.ok (k:Nat):=(lA (Zxe.cok k):Zo Yb _ (.loop (cO (cO (cR (cL (cR (cR (cB Tryz.f98)))))))) (Zxe.l0.s k))
theorem Zxe.ok (k:Nat):Ze Yb 98 (Zxe.con k):=fP (.two .auto (.two .auto (.two (.two .auto (.one (.sum (Zxe.l0.s k)))) .auto))) (Zxe.cok k) Tryz.func98 (sC (Zxe.l0.ok k) sN)
def Zvo (a1:G96) (a2:Int):Option (Bool):=some ((a1.1==2)&&(a1.2.2.1==a2))
def Zvo.con (k:Nat):Con:=Sig.con { ps:=[.val true T96 (ros T96),.rptr (.int .i64)],rs:=[.val false [.v .bool]],ntmps:=13 } (fun x=>Zvo x.1 x.2)
theorem Zvo.ok (k:Nat):Ze Yb 101 (Zvo.con k):=fA (cX cN) Tryz.func101
def Z0d.l0:Nat→List G96→Int→Int→Int→Option (Int ⊕ (Int×Int))
 | 0,_,_,_,_=>none
 | j+1,a1,a2,a3,a4=>bif decide (a3<a2) then Ya (at? a1 a3) fun v5=>Ya (Zvo v5 a4) fun v6=>bif v6 then some (.inr (a3,a4)) else Z0d.l0 j a1 a2 (Yc .i64 (a3+1)) a4 else some (.inl a4)
def Z0d (k:Nat) (a1:List G96) (a2:Int):Option (Int×Int):=Ya (Z0d.l0 k a1 ((a1.length):Int) 0 a2) fun
  | .inl y3=>some ((-1),y3)
  | .inr y4=>some (y4.1,y4.2)
def Z0d.con (k:Nat):Con:=Sig.con { ps:=[.val false (.sl T96) (ros (.sl T96)),.fn 101 [(2,(.int .i64),(Zze (.int .i64)))]],rs:=[.val false [.v (.int .i64)]],ntmps:=19 } (fun x=>Z0d k x.1 x.2)
def Z0d.cok (k:Nat):=cX (cC (Zvo.ok k) cN)
def Z0d.l0.s (k:Nat):Summ:=lp 19 { tmps:=[(0,.one (.bor T96)),(1,.fn 101 [.ptr 0 0]),(7,.one (.v (.int .i64))),(8,.one (.v (.int .i64)))],slots:=[(0,.box 2 [.v (.int .i64)])],nb:=1 } [(.exit 0,{ tmps:=[],slots:=[(0,.box 2 [.v (.int .i64)])],nb:=1 }),(.ret,{ tmps:=[(4,.one (.v (.int .i64)))],slots:=[(0,.box 2 [.v (.int .i64)])],nb:=1 })] (fun j x=>Z0d.l0 j x.1 x.2.1 x.2.2.1 x.2.2.2) k
def Z0d.l0.ok (k:Nat):=(lA (Z0d.cok k):Zo Yb _ (.loop (cO (cO (cR (cL (cR (cB Tryz.f153))))))) (Z0d.l0.s k))
theorem Z0d.ok (k:Nat):Ze Yb 153 (Z0d.con k):=fP (.two .auto (.two (.two .auto (.one (.sum (Z0d.l0.s k)))) .auto)) (Z0d.cok k) Tryz.func153 (sC (Z0d.l0.ok k) sN)
def Zqp (k:Nat) (a1:List G96) (a2:Int):Option (Bool×Int):=Ya (Z0d k a1 a2) fun v3=>some (decide (0≤v3.1),v3.2)
def Zqp.con (k:Nat):Con:=Sig.con { ps:=[.val false (.sl T96) (ros (.sl T96)),.fn 101 [(2,(.int .i64),(Zze (.int .i64)))]],rs:=[.val false [.v .bool]],ntmps:=9 } (fun x=>Zqp k x.1 x.2)
theorem Zqp.ok (k:Nat):Ze Yb 100 (Zqp.con k):=fA (cX (cC (Z0d.ok k) cN)) Tryz.func100
def Zuo (k:Nat) (a1:Int) (a2:List G96) (a3:G58):Option (Bool):=Ya (Z9b a2 0 a3.2.2.2.2.1) fun v4=>Ya (Zqp k v4 a1) fun v5=>some v5.1
def Zuo.con (k:Nat):Con:=Sig.con { ps:=[.val false (.int .i64) (ros (.int .i64)),.rptr (.sl T96),.rptr T58],rs:=[.val false [.v .bool]],ntmps:=11 } (fun x=>Zuo k x.1 x.2.1 x.2.2)
theorem Zuo.ok (k:Nat):Ze Yb 99 (Zuo.con k):=fA (cX (cC (Zqp.ok k) cN)) Tryz.func99
def Zrd.l0:Nat→Int→List G96→Int→Int→Option (Unit ⊕ Int)
 | 0,_,_,_,_=>none
 | j+1,a1,a2,a3,a4=>bif decide (a4<a3) then Ya (at? a2 a4) fun v5=>bif (v5.1==1)&&(v5.2.2.1==a1) then some (.inr (v5.2.2.2)) else Zrd.l0 j a1 a2 a3 (Yc .i64 (a4+1)) else some (.inl ())
def Zrd (k:Nat) (a1:List G96) (a2:Int) (a3:Int):Option (Int):=Ya (Z9b a1 0 a2) fun v4=>Ya (Zrd.l0 k a3 v4 ((v4.length):Int) 0) fun
  | .inl y5=>some (-1)
  | .inr y6=>some y6
def Zrd.con (k:Nat):Con:=Sig.con { ps:=[.val false (.sl T96) (ros (.sl T96)),.val false (.int .i64) (ros (.int .i64)),.val false (.int .i64) (ros (.int .i64))],rs:=[.val false [.v (.int .i64)]],ntmps:=29 } (fun x=>Zrd k x.1 x.2.1 x.2.2)
def Zrd.cok (k:Nat):=cX cN
def Zrd.l0.s (k:Nat):Summ:=lp 29 { tmps:=[(2,.one (.v (.int .i64))),(11,.one (.bor T96)),(12,.one (.v (.int .i64))),(13,.one (.v (.int .i64)))],slots:=[],nb:=0 } [(.exit 0,{ tmps:=[],slots:=[],nb:=0 }),(.ret,{ tmps:=[(6,.one (.v (.int .i64)))],slots:=[],nb:=0 })] (fun j x=>Zrd.l0 j x.1 x.2.1 x.2.2.1 x.2.2.2) k
def Zrd.l0.ok (k:Nat):=(lA (Zrd.cok k):Zo Yb _ (.loop (cO (cO (cR (cL (cR (cB Tryz.f157))))))) (Zrd.l0.s k))
theorem Zrd.ok (k:Nat):Ze Yb 157 (Zrd.con k):=fP (.two .auto (.two (.two .auto (.one (.sum (Zrd.l0.s k)))) .auto)) (Zrd.cok k) Tryz.func157 (sC (Zrd.l0.ok k) sN)
def Z1f.j0 (k:Nat) (a1:List G96) (a2:Int) (a3:List Str) (a4:List Zz) (a5:Int) (a6:Int) (a7:Int) (a8:Int) (a9:Int) (a10:Str) (a11:List Int) (a12:List Int) (a13:Str) (a14:Int) (a15:Int) (a16:Int) (a17:Str):Option ((Str×Int×Int×Int×Str)):=bif (a14==3)||(a14==4) then Ya (Z0f k (a3,a4) (Yc .i64 (3+a16))) fun v18=>Ya (Zrd k a1 a9 a16) fun v19=>bif decide (0≤v19) then Ya (at? a12 v19) fun v20=>Ya (Zzi k (a2,(a3,a4)) v20) fun v21=>some (v21,a14,a15,a16,a17) else some (v18,a14,a15,a16,a17) else some (a13,a14,a15,a16,a17)
def Z1f (k:Nat) (a1:G28) (a2:G58) (a3:List G96) (a4:G45):Option (Str):=Ya (Z1f.j0 k a3 a1.1 a1.2.1 a1.2.2 a2.1 a2.2.1 a2.2.2.1 a2.2.2.2.1 a2.2.2.2.2.1 a2.2.2.2.2.2.1 a2.2.2.2.2.2.2.1 a2.2.2.2.2.2.2.2 [] a4.1 a4.2.1 a4.2.2.1 a4.2.2.2) fun y5=>bif (y5.2.1==4)&&(((y5.1.length):Int) != 8) then some ([]) else Ya (Z5l k y5.2 y5.1) fun v6=>some v6
def Z1f.con (k:Nat):Con:=Sig.con { ps:=[.val true T28 (ros T28),.val true T58 (ros T58),.val false (.sl T96) (ros (.sl T96)),.val true T45 (ros T45)],rs:=[.val false [.v .str]],ntmps:=51 } (fun x=>Z1f k x.1 x.2.1 x.2.2.1 x.2.2.2)
def Z1f.cok (k:Nat):=cXr true false (cC (Zzi.ok k) (cC (Z0f.ok k) (cC (Z5l.ok k) (cC (Zrd.ok k) cN))))
def Z1f.j0.s (k:Nat):Summ:=lq 51 { tmps:=[(2,.one (.bor T96)),(4,.eptr [.v (.int .i64),.bor .str,.bor Zx]),(5,.eptr [.v (.int .i64),.v (.int .i64),.v (.int .i64),.v (.int .i64),.v (.int .i64),.v .str,.bor (.int .i64),.bor (.int .i64)]),(7,.one (.ptr 0 0)),(9,.one (.v .str))],slots:=[(0,.box 45 [.v (.int .i64),.v (.int .i64),.v (.int .i64),.v .str])],nb:=1 } [(.nrm,{ tmps:=[(9,.one (.v .str))],slots:=[(0,.box 45 [.v (.int .i64),.v (.int .i64),.v (.int .i64),.v .str])],nb:=1 })] (fun x=>Z1f.j0 k x.1 x.2.1 x.2.2.1 x.2.2.2.1 x.2.2.2.2.1 x.2.2.2.2.2.1 x.2.2.2.2.2.2.1 x.2.2.2.2.2.2.2.1 x.2.2.2.2.2.2.2.2.1 x.2.2.2.2.2.2.2.2.2.1 x.2.2.2.2.2.2.2.2.2.2.1 x.2.2.2.2.2.2.2.2.2.2.2.1 x.2.2.2.2.2.2.2.2.2.2.2.2.1 x.2.2.2.2.2.2.2.2.2.2.2.2.2.1 x.2.2.2.2.2.2.2.2.2.2.2.2.2.2.1 x.2.2.2.2.2.2.2.2.2.2.2.2.2.2.2.1 x.2.2.2.2.2.2.2.2.2.2.2.2.2.2.2.2)
def Z1f.j0.ok (k:Nat):=(jA (Z1f.cok k):Zo Yb _ (cL (cR (cR (cB Tryz.f103)))) (Z1f.j0.s k))
theorem Z1f.ok (k:Nat):Ze Yb 103 (Z1f.con k):=fP (.two .auto (.two .auto (.two (.sum (Z1f.j0.s k)) .auto))) (Z1f.cok k) Tryz.func103 (sC (Z1f.j0.ok k) sN)
def Zvd.l0 (k:Nat):Nat→Int→List Str→List Zz→List G45→Int→Int→Int→Int→Int→Int→Int→Str→List Str→List Int→List Int→List G96→Option ((Int×Int×Int×Int×Int×Str×List Str×List Int×List Int×List G96))
 | 0,_,_,_,_,_,_,_,_,_,_,_,_,_,_,_,_=>none
 | j+1,a1,a2,a3,a4,a5,a6,a7,a8,a9,a10,a11,a12,a13,a14,a15,a16=>bif decide (a6<a5) then Ya (at? a4 a6) fun v17=>let e18:=(a7,(a8,(a9,(a10,(a11,(a12,(a14,a15)))))));Ya (Zuo k v17.2.1 a16 e18) fun v19=>let e20:=Yc .i64 (a6+1);bif !v19 then Ya (Z1f k (a1,(a2,a3)) e18 a16 v17) fun v21=>let e22:=at? a13 v17.2.1;Ya (e22) fun v23=>Ya (e22) fun v24=>Zvd.l0 k j a1 a2 a3 a4 a5 e20 a7 a8 a9 a10 a11 a12 (Yf a13 (Ye v17.2.1) v21) a14 a15 a16 else Zvd.l0 k j a1 a2 a3 a4 a5 e20 a7 a8 a9 a10 a11 a12 a13 a14 a15 a16 else some (a7,a8,a9,a10,a11,a12,a13,a14,a15,a16)
def Zvd (k:Nat) (a1:G28):Option (List Str):=Ya (Zpf k a1) fun v2=>Ya (Zhd k a1) fun v3=>Ya (Z4c k a1 (v2.1,(v2.2.1,(v2.2.2.1,(v2.2.2.2.1,(v2.2.2.2.2.1,(v2.2.2.2.2.2.1,(v2.2.2.2.2.2.2.1,v2.2.2.2.2.2.2.2.1)))))))) fun v4=>bif v2.1==4 then Ya (Zxe k v3 v4) fun v5=>some v5 else bif v2.1==5 then Ya (Zpb k v4) fun v6=>Ya (Z3i k v4) fun v7=>Ya (Zvd.l0 k k a1.1 a1.2.1 a1.2.2 v7 ((v7.length):Int) 0 v2.1 v2.2.1 v2.2.2.1 v2.2.2.2.1 v2.2.2.2.2.1 v2.2.2.2.2.2.1 v3 v2.2.2.2.2.2.2.1 v2.2.2.2.2.2.2.2.1 v6) fun y8=>some y8.2.2.2.2.2.2.1 else some v3
def Zvd.con (k:Nat):Con:=Sig.con { ps:=[.val true T28 (ros T28)],rs:=[.val false [.own 9 .str]],ntmps:=56 } (fun x=>Zvd k x)
def Zvd.cok (k:Nat):=cXr true false (cC (Zpf.ok k) (cC (Zhd.ok k) (cC (Z4c.ok k) (cC (Zpb.ok k) (cC (Zxe.ok k) (cC (Zuo.ok k) (cC (Z3i.ok k) (cC (Z1f.ok k) cN))))))))
def Zvd.l0.s (k:Nat):Summ:=lp 56 { tmps:=[(1,.eptr [.v (.int .i64),.bor .str,.bor Zx]),(3,.one (.ptr 2 0)),(5,.one (.own 7)),(7,.one (.ptr 6 0)),(8,.fn 99 [.ptr 6 0,.ptr 2 0]),(34,.one (.v (.sl T45))),(35,.one (.v (.int .i64))),(36,.one (.v (.int .i64)))],slots:=[(2,.box 58 [.v (.int .i64),.v (.int .i64),.v (.int .i64),.v (.int .i64),.v (.int .i64),.v .str,.own 8,.own 9]),(6,.box 48 [.own 10]),(7,.arr false 9 .str),(8,.arr false 2 (.int .i64)),(9,.arr false 2 (.int .i64)),(10,.arr false 96 T96)],nb:=11 } [(.exit 1,{ tmps:=[(5,.one (.own 11))],slots:=[(2,.box 58 [.v (.int .i64),.v (.int .i64),.v (.int .i64),.v (.int .i64),.v (.int .i64),.v .str,.own 12,.own 13]),(6,.box 48 [.own 14]),(11,.arr false 9 .str),(12,.arr false 2 (.int .i64)),(13,.arr false 2 (.int .i64)),(14,.arr false 96 T96)],nb:=15 })] (fun j x=>Zvd.l0 k j x.1 x.2.1 x.2.2.1 x.2.2.2.1 x.2.2.2.2.1 x.2.2.2.2.2.1 x.2.2.2.2.2.2.1 x.2.2.2.2.2.2.2.1 x.2.2.2.2.2.2.2.2.1 x.2.2.2.2.2.2.2.2.2.1 x.2.2.2.2.2.2.2.2.2.2.1 x.2.2.2.2.2.2.2.2.2.2.2.1 x.2.2.2.2.2.2.2.2.2.2.2.2.1 x.2.2.2.2.2.2.2.2.2.2.2.2.2.1 x.2.2.2.2.2.2.2.2.2.2.2.2.2.2.1 x.2.2.2.2.2.2.2.2.2.2.2.2.2.2.2) k
def Zvd.l0.ok (k:Nat):=(lA (Zvd.cok k):Zo Yb _ (.loop (cO (cO (cR (cR (cR (cL (cR (cR (cR (cO (cR (cL (cR (cR (cR (cB Tryz.f39))))))))))))))))) (Zvd.l0.s k))
theorem Zvd.ok (k:Nat):Ze Yb 39 (Zvd.con k):=fP (.two .auto (.two .auto (.two .auto (.two (.two .auto (.one (.two .auto (.two .auto (.two .auto (.two (.two .auto (.two .auto (.two .auto (.one (.sum (Zvd.l0.s k)))))) .auto)))))) .auto)))) (Zvd.cok k) Tryz.func39 (sC (Zvd.l0.ok k) sN)
def Z3l (k:Nat) (a1:List Int) (a2:List Int):Option (List Int):=Ya (Zrc k a1) fun v3=>Ya (Zrc k a2) fun v4=>Ya (Zid k (intBits .andNot .i64 16777215 (intBits .or .i64 v3 v4))) fun v5=>some v5
def Z3l.con (k:Nat):Con:=Sig.con { ps:=[.val false (.sl (.int .i64)) (ros (.sl (.int .i64))),.val false (.sl (.int .i64)) (ros (.sl (.int .i64)))],rs:=[.val false [.own 2 (.int .i64)]],ntmps:=12 } (fun x=>Z3l k x.1 x.2)
theorem Z3l.ok (k:Nat):Ze Yb 42 (Z3l.con k):=fA (cX (cC (Zid.ok k) (cC (Zrc.ok k) cN))) Tryz.func42
def Zwe.l0:Nat→List Int→Int→Int→List Zwt→Option ((List Zwt))
 | 0,_,_,_,_=>none
 | j+1,a1,a2,a3,a4=>bif decide (a3<a2) then Ya (at? a1 a3) fun v5=>let e6:=Yc .i64 (((a4.length):Int)-1);let e7:=Yc .i64 (a3+1);let e8:=Zmb 16 a4 [(v5,1)];bif decide (0≤e6) then let e9:=at? a4 e6;Ya (e9) fun v10=>Ya (e9) fun v11=>Ya (e9) fun v12=>Ya (e9) fun v13=>bif (Yc .i64 (v11.1+v13.2))==v5 then Ya (e9) fun v14=>Ya (e9) fun v15=>Ya (e9) fun v16=>Ya (e9) fun v17=>Zwe.l0 j a1 a2 e7 (Yf a4 (Ye e6) (v17.1,(Yc .i64 (v15.2+1)))) else Ya (e8) fun v18=>Zwe.l0 j a1 a2 e7 v18 else Ya (e8) fun v19=>Zwe.l0 j a1 a2 e7 v19 else some a4
def Zwe (k:Nat) (a1:List Int):Option (List Zwt):=Ya (Zwe.l0 k a1 ((a1.length):Int) 0 []) fun y2=>some y2
def Zwe.con (k:Nat):Con:=Sig.con { ps:=[.val false (.sl (.int .i64)) (ros (.sl (.int .i64)))],rs:=[.val false [.own 172 Z3n]],ntmps:=48 } (fun x=>Zwe k x)
def Zwe.cok (k:Nat):=cX cN
def Zwe.l0.s (k:Nat):Summ:=lp 48 { tmps:=[(3,.one (.own 0)),(7,.one (.bor (.int .i64))),(8,.one (.v (.int .i64))),(9,.one (.v (.int .i64)))],slots:=[(0,.arr false 172 Z3n)],nb:=1 } [(.exit 0,{ tmps:=[(3,.one (.own 1))],slots:=[(1,.arr false 172 Z3n)],nb:=2 })] (fun j x=>Zwe.l0 j x.1 x.2.1 x.2.2.1 x.2.2.2) k
def Zwe.l0.ok (k:Nat):=(lA (Zwe.cok k):Zo Yb _ (.loop (cO (cO (cR (cL (cR (cR (cB Tryz.f142)))))))) (Zwe.l0.s k))
theorem Zwe.ok (k:Nat):Ze Yb 142 (Zwe.con k):=fP (.two .auto (.two .auto (.two (.two .auto (.one (.sum (Zwe.l0.s k)))) .auto))) (Zwe.cok k) Tryz.func142 (sC (Zwe.l0.ok k) sN)
def Z2b.l0:Nat→Int→Int→Int→Int→List Int→Option ((Int×Int×List Int))
 | 0,_,_,_,_,_=>none
 | j+1,a1,a2,a3,a4,a5=>bif decide (a2<a1) then Ya (Zmb 8 a5 [(Yc .i64 (a3+a2))]) fun v6=>Z2b.l0 j a1 (Yc .i64 (a2+1)) a3 a4 v6 else some (a3,a4,a5)
def Z2b.l1 (k:Nat):Nat→Int→Int→Int→List Zwt→Option (Unit ⊕ (Bool×List Int))
 | 0,_,_,_,_=>none
 | j+1,a1,a2,a3,a4=>bif decide (a3<a2) then Ya (at? a4 a3) fun v5=>Ya (at? a4 a3) fun v6=>bif decide (a1≤v6.2) then Ya (Z2b.l0 k a1 0 v6.1 v6.2 []) fun y7=>some (.inr (true,y7.2.2)) else Z2b.l1 k j a1 a2 (Yc .i64 (a3+1)) a4 else some (.inl ())
def Z2b (k:Nat) (a1:List Int) (a2:List Int) (a3:Int):Option (List Int×Bool):=Ya (Z3l k a1 a2) fun v4=>Ya (Zsj v4) fun v5=>bif decide (v5<a3) then some ([],false) else Ya (Zwe k v4) fun v6=>Ya (Z2b.l1 k k a3 ((v6.length):Int) 0 v6) fun
  | .inl y7=>Ya (Z9b v4 0 a3) fun v8=>some (v8,true)
  | .inr y9=>some (y9.2,y9.1)
def Z2b.con (k:Nat):Con:=Sig.con { ps:=[.val false (.sl (.int .i64)) (ros (.sl (.int .i64))),.val false (.sl (.int .i64)) (ros (.sl (.int .i64))),.val false (.int .i64) (ros (.int .i64))],rs:=[.val false [.v (.sl (.int .i64))],.val false [.v .bool]],ntmps:=48 } (fun x=>Z2b k x.1 x.2.1 x.2.2)
def Z2b.cok (k:Nat):=cX (cC (Z3l.ok k) (cC (Zsj.ok k) (cC (Zwe.ok k) cN)))
def Z2b.l0.s (k:Nat):Summ:=lp 48 { tmps:=[(10,.one (.ptr 3 0)),(11,.one (.own 4)),(31,.one (.v (.int .i64))),(32,.one (.v (.int .i64)))],slots:=[(3,.box 172 [.v (.int .i64),.v (.int .i64)]),(4,.arr false 2 (.int .i64))],nb:=5 } [(.exit 2,{ tmps:=[(11,.one (.own 5))],slots:=[(3,.box 172 [.v (.int .i64),.v (.int .i64)]),(5,.arr false 2 (.int .i64))],nb:=6 })] (fun j x=>Z2b.l0 j x.1 x.2.1 x.2.2.1 x.2.2.2.1 x.2.2.2.2) k
def Z2b.l0.ok (k:Nat):=(lA (Z2b.cok k):Zo Yb _ (.loop (cO (cO (cR (cL (cR (cL (cR (cR (cO (cL (cR (cR (cO (cO (cR (cL (cR (cR (cR (cB Yw))))))))))))))))))))) (Z2b.l0.s k))
def Z2b.l1.s (k:Nat):Summ:=lp 48 { tmps:=[(2,.one (.v (.int .i64))),(21,.one (.own 2)),(22,.one (.v (.int .i64))),(23,.one (.v (.int .i64)))],slots:=[(2,.arr false 172 Z3n)],nb:=3 } [(.exit 0,{ tmps:=[],slots:=[],nb:=3 }),(.ret,{ tmps:=[(6,.one (.own 3)),(7,.one (.v .bool))],slots:=[(3,.arr false 2 (.int .i64))],nb:=4 })] (fun j x=>Z2b.l1 k j x.1 x.2.1 x.2.2.1 x.2.2.2) k
def Z2b.l1.ok (k:Nat):=(lP (.two .auto (.two .auto (.two (.one (.two .auto (.two .auto (.two (.two .auto (.two (.two .auto (.one (.sum (Z2b.l0.s k)))) .auto)) .auto)))) .auto))) (Z2b.cok k) (sC (Z2b.l0.ok k) sN):Zo Yb _ (.loop (cO (cO (cR (cL (cR (cR (cR (cB Yw))))))))) (Z2b.l1.s k))
theorem Z2b.ok (k:Nat):Ze Yb 83 (Z2b.con k):=fP (.two .auto (.two .auto (.two .auto (.two (.two .auto (.one (.sum (Z2b.l1.s k)))) .auto)))) (Z2b.cok k) Tryz.func83 (sC (Z2b.l1.ok k) sN)
def Zve.l0:Nat→Int→List Str→List Zz→List Int→Int→Int→List Zyg→Option ((List Zyg))
 | 0,_,_,_,_,_,_,_=>none
 | j+1,a1,a2,a3,a4,a5,a6,a7=>bif decide (a6<a5) then Ya (at? a4 a6) fun v8=>Ya (Zgh (a1,(a2,a3)) v8) fun v9=>Ya (Zmb 32 a7 ([(false,(v9,[]))])) fun v10=>Zve.l0 j a1 a2 a3 a4 a5 (Yc .i64 (a6+1)) v10 else some a7
def Zve (k:Nat) (a1:G28) (a2:G58) (a3:G47):Option (List Zyg×Str×List Int×Int):=bif a2.1 != 1 then some ([],[],[],10) else Ya (Z2b k a2.2.2.2.2.2.2.1 [] (Yc .i64 (a3.2.1+a3.2.2.1))) fun v4=>bif !v4.2 then some ([],[],[],11) else Ya (Zve.l0 k a1.1 a1.2.1 a1.2.2 v4.1 ((v4.1.length):Int) 0 []) fun y5=>Ya (Zmb 32 y5 ([(true,(0,[]))])) fun v6=>Ya (Zke k a1 (2,(0,(a3.2.1,(a3.2.2.1,(0,(a3.2.2.2.1,(a2.2.2.2.2.2.2.1,v4.1)))))))) fun v7=>Ya (Zmb 32 v6 v7) fun v8=>some (v8,[],[],0)
def Zve.con (k:Nat):Con:=Sig.con { ps:=[.val true T28 (ros T28),.val true T58 (ros T58),.val true T47 (ros T47)],rs:=[.val true [.own 108 Zte,.v .str,.own 2 (.int .i64),.v (.int .i64)]],ntmps:=63 } (fun x=>Zve k x.1 x.2.1 x.2.2)
def Zve.cok (k:Nat):=cXr true false (cC (Zke.ok k) (cC (Z2b.ok k) (cC (Zgh.ok k) cN)))
def Zve.l0.s (k:Nat):Summ:=lp 63 { tmps:=[(3,.eptr [.v (.int .i64),.bor .str,.bor Zx]),(9,.one (.own 2)),(30,.one (.v (.sl (.int .i64)))),(31,.one (.v (.int .i64))),(32,.one (.v (.int .i64)))],slots:=[(2,.arr false 108 Zte)],nb:=3 } [(.exit 0,{ tmps:=[(9,.one (.own 3))],slots:=[(3,.arr false 108 Zte)],nb:=4 })] (fun j x=>Zve.l0 j x.1 x.2.1 x.2.2.1 x.2.2.2.1 x.2.2.2.2.1 x.2.2.2.2.2.1 x.2.2.2.2.2.2) k
def Zve.l0.ok (k:Nat):=(lA (Zve.cok k):Zo Yb _ (.loop (cO (cO (cR (cL (cR (cR (cR (cR (cR (cB Tryz.f74))))))))))) (Zve.l0.s k))
theorem Zve.ok (k:Nat):Ze Yb 74 (Zve.con k):=fP (.two .auto (.two .auto (.two .auto (.two .auto (.two .auto (.two (.two .auto (.one (.sum (Zve.l0.s k)))) .auto)))))) (Zve.cok k) Tryz.func74 (sC (Zve.l0.ok k) sN)
def Zbk (a1:List G45):Option (Int):=some ((a1.length):Int)
def Zbk.con (k:Nat):Con:=Sig.con { ps:=[.val false (.sl T45) (ros (.sl T45))],rs:=[.val false [.v (.int .i64)]],ntmps:=5 } (fun x=>Zbk x)
theorem Zbk.ok (k:Nat):Ze Yb 80 (Zbk.con k):=fA (cX cN) Tryz.func80
def Zcp (k:Nat) (a1:G45):Option (Str):=Ya (Zxd k [a1.1,a1.2.1,a1.2.2.1]) fun v2=>Ya (Z0i k a1.2.2.2) fun v3=>Ya (Zge v2 v3) fun v4=>some v4
def Zcp.con (k:Nat):Con:=Sig.con { ps:=[.val true T45 (ros T45)],rs:=[.val false [.v .str]],ntmps:=15 } (fun x=>Zcp k x)
theorem Zcp.ok (k:Nat):Ze Yb 175 (Zcp.con k):=fA (cX (cC (Zxd.ok k) (cC (Z0i.ok k) cN))) Tryz.func175
def Zap (k:Nat) (a1:Int) (a2:G45):Option (Str):=Ya (Zec k a1) fun v3=>Ya (Zcp k a2) fun v4=>Ya (Zge v3 v4) fun v5=>Ya (Z1i k v5) fun v6=>some v6
def Zap.con (k:Nat):Con:=Sig.con { ps:=[.val false (.int .i64) (ros (.int .i64)),.val true T45 (ros T45)],rs:=[.val false [.v .str]],ntmps:=11 } (fun x=>Zap k x.1 x.2)
theorem Zap.ok (k:Nat):Ze Yb 138 (Zap.con k):=fA (cX (cC (Z1i.ok k) (cC (Zec.ok k) (cC (Zcp.ok k) cN)))) Tryz.func138
def Zto (k:Nat) (a1:G28) (a2:G58) (a3:List G45) (a4:G45):Option (List Zyg×Str×List Int×Int):=bif a2.1 != 2 then some ([],[],[],10) else Ya (Zbk a3) fun v5=>bif v5==a2.2.2.1 then some ([],[],[],9) else Ya (Zmb 40 a3 [a4]) fun v6=>Ya (Zbd k v6 a1.1) fun v7=>bif v7 != 0 then some ([],[],[],v7) else Ya (at? a2.2.2.2.2.2.2.2 (Yc .i64 (a2.2.2.2.1+v5))) fun v8=>Ya (Zgh a1 v8) fun v9=>Ya (Zap k v5 a4) fun v10=>let e11:=[(false,(v9,v10))];bif a4.1==5 then Ya (Zmb 32 e11 ([(true,(0,[]))])) fun v12=>some (v12,[],[],0) else some (e11,[],[],0)
def Zto.con (k:Nat):Con:=Sig.con { ps:=[.val true T28 (ros T28),.val true T58 (ros T58),.mv 45 T45,.val true T45 (ros T45)],rs:=[.val true [.own 108 Zte,.v .str,.own 2 (.int .i64),.v (.int .i64)]],ntmps:=58 } (fun x=>Zto k x.1 x.2.1 x.2.2.1 x.2.2.2)
theorem Zto.ok (k:Nat):Ze Yb 75 (Zto.con k):=fA (cXr true false (cC (Zbd.ok k) (cC (Zbk.ok k) (cC (Zgh.ok k) (cC (Zap.ok k) cN))))) Tryz.func75
def strings_Repeat (a:Str) (n:Int):Option Str:=if 0≤n∧(a.length:Int)*n≤140737488355328∧n≤9223372036854775807 then some (Lib.repeatL a n.toNat) else none
def strings_Repeat.sig:Sig:={ ps:=[.val false .str (ros .str),.val false (.int .i64) (ros (.int .i64))],rs:=[.val false [.v .str]],ntmps:=0 }
def strings_Repeat.con (k:Nat):Con:=strings_Repeat.sig.con (fun x=>strings_Repeat x.1 x.2)
theorem strings_Repeat.ok (k:Nat):Ze Yb 188 (strings_Repeat.con k):=Zxib (Zu1 Tryz.func188 (by kernel_rfl) (show Yt.body=some (cB Yt) by kernel_rfl)) (by kernel_rfl) (by kernel_rfl) (by
 intro (x:Str×Int) (y:Str) w h
 obtain ⟨a,n⟩:=x
 replace h:strings_Repeat a n=some y:=h
 unfold strings_Repeat at h
 split at h
 ·rename_i h0
  obtain ⟨h0,h1,h2⟩:=h0;injection h with h
  subst h;obtain ⟨c,rfl⟩:∃c:Nat,n=(c:Int):=⟨n.toNat,by omega⟩;have h3:((a.length*c:Nat):Int)≤140737488355328:=by rw [Int.natCast_mul];exact h1
  have h1':a.length*c≤140737488355328:=by omega
  refine (Tryz.strings_Repeat (ba a) c w (by omega) h1').mono ?_;rintro e w' ⟨rfl,bel⟩;exact ⟨[.string (ba (Lib.repeatL a c))],rfl,rfl,rfl,bel⟩
 ·cases h)
def Zwd.l0:Nat→Int→Int→List Int→Option ((List Int))
 | 0,_,_,_=>none
 | j+1,a1,a2,a3=>bif decide (0≤a2) then Ya (at? a3 a2) fun v4=>Ya (at? a3 a2) fun v5=>Ya (Zrb 8) fun v6=>Zwd.l0 j (shr .u64 a1 8) (Yc .i64 (a2-1)) (Yf a3 (Ye a2) (Yc .u8 a1)) else some a3
def Zwd (k:Nat) (a1:Int) (a2:Int):Option (Str):=Ya (Zrg 1 a2 a2 0) fun v3=>Ya (Zwd.l0 k a1 (Yc .i64 (a2-1)) v3) fun y4=>some (Znb y4)
def Zwd.con (k:Nat):Con:=Sig.con { ps:=[.val false (.int .u64) (ros (.int .u64)),.val false (.int .i64) (ros (.int .i64))],rs:=[.val false [.v .str]],ntmps:=24 } (fun x=>Zwd k x.1 x.2)
def Zwd.cok (k:Nat):=cX cN
def Zwd.l0.s (k:Nat):Summ:=lp 24 { tmps:=[(0,.one (.v (.int .u64))),(5,.one (.own 1)),(6,.one (.v (.int .i64)))],slots:=[(1,.arr false 5 (.int .u8))],nb:=2 } [(.exit 0,{ tmps:=[(5,.one (.own 2))],slots:=[(2,.arr false 5 (.int .u8))],nb:=3 })] (fun j x=>Zwd.l0 j x.1 x.2.1 x.2.2) k
def Zwd.l0.ok (k:Nat):=(lA (Zwd.cok k):Zo Yb _ (.loop (cO (cO (cR (cL (cR (cR (cB Tryz.f189)))))))) (Zwd.l0.s k))
theorem Zwd.ok (k:Nat):Ze Yb 189 (Zwd.con k):=fP (.two .auto (.two .auto (.two (.two .auto (.one (.sum (Zwd.l0.s k)))) .auto))) (Zwd.cok k) Tryz.func189 (sC (Zwd.l0.ok k) sN)
def Zxo (a1:Str):Option (Int):=Ya (at? a1 0) fun v2=>Ya (Zrb 24) fun v3=>Ya (at? a1 1) fun v4=>Ya (Zrb 16) fun v5=>Ya (at? a1 2) fun v6=>Ya (Zrb 8) fun v7=>Ya (at? a1 3) fun v8=>some (intBits .or .u32 (intBits .or .u32 (intBits .or .u32 (shl .u32 (Yc .u32 (v2.toNat:Int)) 24) (shl .u32 (Yc .u32 (v4.toNat:Int)) 16)) (shl .u32 (Yc .u32 (v6.toNat:Int)) 8)) (Yc .u32 (v8.toNat:Int)))
def Zxo.con (k:Nat):Con:=Sig.con { ps:=[.val false .str (ros .str)],rs:=[.val false [.v (.int .u32)]],ntmps:=21 } (fun x=>Zxo x)
theorem Zxo.ok (k:Nat):Ze Yb 197 (Zxo.con k):=fA (cX cN) Tryz.func197
def Znq (a1:Int) (a2:Int):Option (Int):=let e3:=intBits .and .u64 (Yc .u64 a2) 31;Ya (Zrb e3) fun v4=>let e5:=Yc .u64 (32-e3);Ya (Zrb e5) fun v6=>some (intBits .or .u32 (shl .u32 a1 e3) (shr .u32 a1 e5))
def Znq.con (k:Nat):Con:=Sig.con { ps:=[.val false (.int .u32) (ros (.int .u32)),.val false (.int .i64) (ros (.int .i64))],rs:=[.val false [.v (.int .u32)]],ntmps:=17 } (fun x=>Znq x.1 x.2)
theorem Znq.ok (k:Nat):Ze Yb 204 (Znq.con k):=fA (cX cN) Tryz.func204
def Zsh (a1:Int) (a2:Int):Option (Int):=Ya (Znq a1 (Yc .i64 (0-a2))) fun v3=>some v3
def Zsh.con (k:Nat):Con:=Sig.con { ps:=[.val false (.int .u32) (ros (.int .u32)),.val false (.int .i64) (ros (.int .i64))],rs:=[.val false [.v (.int .u32)]],ntmps:=9 } (fun x=>Zsh x.1 x.2)
theorem Zsh.ok (k:Nat):Ze Yb 198 (Zsh.con k):=fA (cX (cC (Znq.ok k) cN)) Tryz.func198
def Ztb.l0:Nat→Str→Int→List Int→Option ((List Int))
 | 0,_,_,_=>none
 | j+1,a1,a2,a3=>bif decide (a2<64) then let e4:=Yc .i64 (a2+1);bif decide (a2<16) then Ya (Z9b a1 (Yc .i64 (4*a2)) ((a1.length):Int)) fun v5=>Ya (Zxo v5) fun v6=>Ya (at? a3 a2) fun v7=>Ya (Zjr a3 a2 v6) fun v8=>Ztb.l0 j a1 e4 v8 else let e9:=at? a3 (Yc .i64 (a2-15));Ya (e9) fun v10=>Ya (e9) fun v11=>let e12:=at? a3 (Yc .i64 (a2-2));Ya (e12) fun v13=>Ya (e12) fun v14=>Ya (Zsh v11 7) fun v15=>Ya (Zsh v11 18) fun v16=>Ya (Zrb 3) fun v17=>Ya (Zsh v14 17) fun v18=>Ya (Zsh v14 19) fun v19=>Ya (Zrb 10) fun v20=>let e21:=at? a3 (Yc .i64 (a2-16));Ya (e21) fun v22=>Ya (e21) fun v23=>let e24:=at? a3 (Yc .i64 (a2-7));Ya (e24) fun v25=>Ya (e24) fun v26=>Ya (at? a3 a2) fun v27=>Ya (Zjr a3 a2 (Yc .u32 ((Yc .u32 ((Yc .u32 (v23+(intBits .xor .u32 (intBits .xor .u32 v15 v16) (shr .u32 v11 3))))+v26))+(intBits .xor .u32 (intBits .xor .u32 v18 v19) (shr .u32 v14 10))))) fun v28=>Ztb.l0 j a1 e4 v28 else some a3
def Ztb.l1:Nat→Int→Int→Int→Int→Int→Int→Int→Int→Int→List Int→Option ((Int×Int×Int×Int×Int×Int×Int×Int))
 | 0,_,_,_,_,_,_,_,_,_,_=>none
 | j+1,a1,a2,a3,a4,a5,a6,a7,a8,a9,a10=>bif decide (a9<64) then Ya (Zsh a5 6) fun v11=>Ya (Zsh a5 11) fun v12=>Ya (Zsh a5 25) fun v13=>Ya (at? Zrm a9) fun v14=>Ya (at? a10 a9) fun v15=>Ya (at? a10 a9) fun v16=>Ya (Zsh a1 2) fun v17=>Ya (Zsh a1 13) fun v18=>Ya (Zsh a1 22) fun v19=>let e20:=Yc .u32 ((Yc .u32 ((Yc .u32 ((Yc .u32 (a8+(intBits .xor .u32 (intBits .xor .u32 v11 v12) v13)))+(intBits .xor .u32 (intBits .and .u32 a5 a6) (intBits .and .u32 (intBits .xor .u32 (IntKind.max .u32) a5) a7))))+v14))+v16);Ztb.l1 j (Yc .u32 (e20+(Yc .u32 ((intBits .xor .u32 (intBits .xor .u32 v17 v18) v19)+(intBits .xor .u32 (intBits .xor .u32 (intBits .and .u32 a1 a2) (intBits .and .u32 a1 a3)) (intBits .and .u32 a2 a3)))))) a1 a2 a3 (Yc .u32 (a4+e20)) a5 a6 a7 (Yc .i64 (a9+1)) a10 else some (a1,a2,a3,a4,a5,a6,a7,a8)
def Ztb.l2:Nat→Int→Int→Int→Int→Int→Int→Int→Int→Int→List Int→Option ((List Int))
 | 0,_,_,_,_,_,_,_,_,_,_=>none
 | j+1,a1,a2,a3,a4,a5,a6,a7,a8,a9,a10=>bif decide (a9<8) then Ya (at? [a1,a2,a3,a4,a5,a6,a7,a8] a9) fun v11=>Ya (at? a10 a9) fun v12=>Ya (at? a10 a9) fun v13=>Ya (at? a10 a9) fun v14=>Ya (Zjr a10 a9 (Yc .u32 (v13+v11))) fun v15=>Ztb.l2 j a1 a2 a3 a4 a5 a6 a7 a8 (Yc .i64 (a9+1)) v15 else some a10
def Ztb (k:Nat) (a1:List Int) (a2:Str):Option (List Int):=Ya (Ztb.l0 k a2 0 (Yj 64 (0:Int))) fun y3=>Ya (at? a1 0) fun v4=>Ya (at? a1 0) fun v5=>Ya (at? a1 1) fun v6=>Ya (at? a1 1) fun v7=>Ya (at? a1 2) fun v8=>Ya (at? a1 2) fun v9=>Ya (at? a1 3) fun v10=>Ya (at? a1 3) fun v11=>Ya (at? a1 4) fun v12=>Ya (at? a1 4) fun v13=>Ya (at? a1 5) fun v14=>Ya (at? a1 5) fun v15=>Ya (at? a1 6) fun v16=>Ya (at? a1 6) fun v17=>Ya (at? a1 7) fun v18=>Ya (at? a1 7) fun v19=>Ya (Ztb.l1 k v5 v7 v9 v11 v13 v15 v17 v19 0 y3) fun y20=>Ya (Ztb.l2 k y20.1 y20.2.1 y20.2.2.1 y20.2.2.2.1 y20.2.2.2.2.1 y20.2.2.2.2.2.1 y20.2.2.2.2.2.2.1 y20.2.2.2.2.2.2.2 0 a1) fun y21=>some y21
def Ztb.con (k:Nat):Con:=Sig.con { ps:=[.val false (.sl (.int .u32)) [.own 2000008],.val false .str (ros .str)],rs:=[],ntmps:=193 } (fun x=>Ztb k x.1 x.2)
def Ztb.cok (k:Nat):=cX (cC (Zxo.ok k) (cC (Zsh.ok k) cN))
def Ztb.l0.s (k:Nat):Summ:=lp 193 { tmps:=[(1,.one (.v .str)),(4,.one (.own 2)),(23,.one (.v (.int .i64)))],slots:=[(2,.arr false 2000064 (.int .u32))],nb:=3 } [(.exit 0,{ tmps:=[(4,.one (.own 3))],slots:=[(3,.arr false 2000064 (.int .u32))],nb:=4 })] (fun j x=>Ztb.l0 j x.1 x.2.1 x.2.2) k
def Ztb.l0.ok (k:Nat):=(lA (Ztb.cok k):Zo Yb _ (.loop (cO (cO (cR (cL (cR (cB Yl))))))) (Ztb.l0.s k))
def Ztb.l1.s (k:Nat):Summ:=lp 193 { tmps:=[(4,.one (.own 4)),(10,.one (.v (.int .u32))),(11,.one (.v (.int .u32))),(12,.one (.v (.int .u32))),(13,.one (.v (.int .u32))),(14,.one (.v (.int .u32))),(15,.one (.v (.int .u32))),(16,.one (.v (.int .u32))),(17,.one (.v (.int .u32))),(107,.one (.v (.int .i64)))],slots:=[(4,.arr false 2000064 (.int .u32))],nb:=5 } [(.exit 2,{ tmps:=[(10,.one (.v (.int .u32))),(11,.one (.v (.int .u32))),(12,.one (.v (.int .u32))),(13,.one (.v (.int .u32))),(14,.one (.v (.int .u32))),(15,.one (.v (.int .u32))),(16,.one (.v (.int .u32))),(17,.one (.v (.int .u32)))],slots:=[],nb:=5 })] (fun j x=>Ztb.l1 j x.1 x.2.1 x.2.2.1 x.2.2.2.1 x.2.2.2.2.1 x.2.2.2.2.2.1 x.2.2.2.2.2.2.1 x.2.2.2.2.2.2.2.1 x.2.2.2.2.2.2.2.2.1 x.2.2.2.2.2.2.2.2.2) k
def Ztb.l1.ok (k:Nat):=(lA (Ztb.cok k):Zo Yb _ (.loop (cO (cO (cR (cL (cR (cR (cR (cB Yl))))))))) (Ztb.l1.s k))
def Ztb.l2.s (k:Nat):Summ:=lp 193 { tmps:=[(0,.one (.pin 0)),(178,.agg [.v (.int .u32),.v (.int .u32),.v (.int .u32),.v (.int .u32),.v (.int .u32),.v (.int .u32),.v (.int .u32),.v (.int .u32)]),(179,.one (.v (.int .i64)))],slots:=[(0,.pin 2000008 (.int .u32))],nb:=5 } [(.exit 4,{ tmps:=[],slots:=[(0,.pin 2000008 (.int .u32))],nb:=5 })] (fun j x=>Ztb.l2 j x.1 x.2.1 x.2.2.1 x.2.2.2.1 x.2.2.2.2.1 x.2.2.2.2.2.1 x.2.2.2.2.2.2.1 x.2.2.2.2.2.2.2.1 x.2.2.2.2.2.2.2.2.1 x.2.2.2.2.2.2.2.2.2) k
def Ztb.l2.ok (k:Nat):=(lA (Ztb.cok k):Zo Yb _ (.loop (cO (cO (cR (cR (cR (cR (cR (cB Yl))))))))) (Ztb.l2.s k))
theorem Ztb.ok (k:Nat):Ze Yb 190 (Ztb.con k):=fP (.two .auto (.two (.two .auto (.one (.sum (Ztb.l0.s k)))) (.two .auto (.two (.two .auto (.one (.sum (Ztb.l1.s k)))) (.two .auto (.one (.sum (Ztb.l2.s k)))))))) (Ztb.cok k) Tryz.func190 (sC (Ztb.l0.ok k) (sC (Ztb.l1.ok k) (sC (Ztb.l2.ok k) sN)))
def Zsc.l0 (k:Nat):Nat→Str→List Int→Option ((List Int))
 | 0,_,_=>none
 | j+1,a1,a2=>bif !(a1==[]) then Ya (Z9b a1 0 64) fun v3=>Ya (Ztb k a2 v3) fun v4=>Ya (Z9b a1 64 ((a1.length):Int)) fun v5=>Zsc.l0 k j v5 v4 else some a2
def Zsc.l1 (k:Nat):Nat→Str→Int→Int→Int→Int→Int→Int→Int→Int→Int→Option (Str)
 | 0,_,_,_,_,_,_,_,_,_,_=>none
 | j+1,a1,a2,a3,a4,a5,a6,a7,a8,a9,a10=>bif decide (a10<8) then Ya (at? [a2,a3,a4,a5,a6,a7,a8,a9] a10) fun v11=>Ya (Zwd k (Yc .u64 v11) 4) fun v12=>Ya (Zge a1 v12) fun v13=>Zsc.l1 k j v13 a2 a3 a4 a5 a6 a7 a8 a9 (Yc .i64 (a10+1)) else some a1
def Zsc (k:Nat) (a1:Str):Option (Str):=Ya (nz? 64) fun v2=>Ya (nz? 64) fun v3=>Ya (Zge a1 ([128]:Str)) fun v4=>Ya (strings_Repeat ([0]:Str) (Int.tmod (Yc .i64 (119-(Int.tmod ((a1.length):Int) 64))) 64)) fun v5=>Ya (Zge v4 v5) fun v6=>Ya (Zwd k (Yc .u64 (8*(Yc .u64 ((a1.length):Int)))) 8) fun v7=>Ya (Zge v6 v7) fun v8=>Ya (Zsc.l0 k k v8 [(Yd Zqm 0 0),(Yd Zqm 1 0),(Yd Zqm 2 0),(Yd Zqm 3 0),(Yd Zqm 4 0),(Yd Zqm 5 0),(Yd Zqm 6 0),(Yd Zqm 7 0)]) fun y9=>Ya (Zsc.l1 k k [] (Yd y9 0 0) (Yd y9 1 0) (Yd y9 2 0) (Yd y9 3 0) (Yd y9 4 0) (Yd y9 5 0) (Yd y9 6 0) (Yd y9 7 0) 0) fun y10=>some y10
def Zsc.con (k:Nat):Con:=Sig.con { ps:=[.val false .str (ros .str)],rs:=[.val false [.v .str]],ntmps:=44 } (fun x=>Zsc k x)
def Zsc.cok (k:Nat):=cX (cC (strings_Repeat.ok k) (cC (Zwd.ok k) (cC (Ztb.ok k) cN)))
def Zsc.l0.s (k:Nat):Summ:=lp 44 { tmps:=[(3,.one (.own 1)),(5,.one (.v .str))],slots:=[(1,.arr false 2000008 (.int .u32))],nb:=2 } [(.exit 0,{ tmps:=[(3,.one (.own 2))],slots:=[(2,.arr false 2000008 (.int .u32))],nb:=3 })] (fun j x=>Zsc.l0 k j x.1 x.2) k
def Zsc.l0.ok (k:Nat):=(lA (Zsc.cok k):Zo Yb _ (.loop (cO (cO (cL (cR (cR (cR (cR (cB Ys))))))))) (Zsc.l0.s k))
def Zsc.l1.s (k:Nat):Summ:=lp 44 { tmps:=[(6,.one (.v .str)),(33,.agg [.v (.int .u32),.v (.int .u32),.v (.int .u32),.v (.int .u32),.v (.int .u32),.v (.int .u32),.v (.int .u32),.v (.int .u32)]),(34,.one (.v (.int .i64)))],slots:=[],nb:=3 } [(.exit 2,{ tmps:=[(6,.one (.v .str))],slots:=[],nb:=3 })] (fun j x=>Zsc.l1 k j x.1 x.2.1 x.2.2.1 x.2.2.2.1 x.2.2.2.2.1 x.2.2.2.2.2.1 x.2.2.2.2.2.2.1 x.2.2.2.2.2.2.2.1 x.2.2.2.2.2.2.2.2.1 x.2.2.2.2.2.2.2.2.2) k
def Zsc.l1.ok (k:Nat):=(lA (Zsc.cok k):Zo Yb _ (.loop (cO (cO (cR (cL (cR (cR (cR (cR (cR (cR (cB Ys)))))))))))) (Zsc.l1.s k))
theorem Zsc.ok (k:Nat):Ze Yb 176 (Zsc.con k):=fP (.two .auto (.two .auto (.two .auto (.two .auto (.two (.one (.sum (Zsc.l0.s k))) (.two .auto (.two (.two .auto (.one (.sum (Zsc.l1.s k)))) .auto))))))) (Zsc.cok k) Tryz.func176 (sC (Zsc.l0.ok k) (sC (Zsc.l1.ok k) sN))
end Go.Proofs.Qz
