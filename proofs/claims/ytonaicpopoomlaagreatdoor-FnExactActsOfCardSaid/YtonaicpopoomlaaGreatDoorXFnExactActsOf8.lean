/- What the law FnExactActsOf needs, part 9 of 14: the Lean functions of the Go functions that it reaches, with the proofs that the calls come to what they say, and plain facts about them. Conditions: those that each theorem states. Written by a session and by its programs (after the kit's printer). -/
import Derived.Test.YtonaicpopoomlaaGreatDoorXFnExactActsOf7
open Option renaming bind → Ya
open Go.IntKind renaming wrap → Yb, max → Ym
open List renaming getD → Yc, set → Ye, mem_singleton → Yf, length_map → Yi, nodup_nil → Yj, replicate → Yk
open Int renaming toNat → Yd, toNat_natCast → Yl
open Nat renaming le_refl → Yg, mul_one → Yh
namespace Go.Proofs.Qz
open Go Go.RowKit
set_option linter.unusedVariables false
set_option linter.defProp false
def Zko (k:Nat) (a1:G59):Option (Bool):=
 Ya (Zeb a1.1 1 5) fun v2=>
 bif !v2 then
  some false
 else
 Ya (Zoe k a1.2.2.2.2.2.2.1) fun v3=>
 bif !v3 then
  some false
 else
 Ya (Zoe k a1.2.2.2.2.2.2.2) fun v4=>
 bif !v4 then
  some false
 else
 Ya (Zic k a1.2.2.2.2.2.2.1) fun v5=>
 Ya (Zic k a1.2.2.2.2.2.2.2) fun v6=>
 bif (intBits .and .i64 v5 v6) != 0 then
  some false
 else
 let e7:=a1.2.1==0
 let e8:=a1.2.2.2.2.1==0
 bif a1.1==1 then
  some (((((e7&&(a1.2.2.1==0))&&(a1.2.2.2.1==0))&&e8)&&(a1.2.2.2.2.2.1==[]))&&(((a1.2.2.2.2.2.2.2.length):Int)==0))
 else
 Ya (Zeb a1.2.2.1 1 20) fun v9=>
 bif v9 then
  Ya (Zeb a1.2.2.2.1 0 4) fun v10=>
  bif v10 then
   Ya (Znj a1.2.2.2.2.2.2.2) fun v11=>
   bif v11==(Yb .i64 (a1.2.2.1+a1.2.2.2.1)) then
    bif ((a1.2.2.2.2.2.1.length):Int)==32 then
     Ya (Zeb a1.2.1 0 2) fun v12=>
     bif v12 then
      let e13:=a1.1==5
      bif e7 then
       Ya (Zeb a1.2.2.2.2.1 0 40) fun v14=>
       bif v14 then
        bif e8 then
         some true
        else
        some e13
       else
       some false
      else
      bif a1.1==4 then
       Ya (Zeb a1.2.2.2.2.1 0 40) fun v15=>
       bif v15 then
        bif e8 then
         some true
        else
        some e13
       else
       some false
      else
      some false
     else
     some false
    else
    some false
   else
   some false
  else
  some false
 else
 some false
def Zko.con (k:Nat):Con:=Sig.con { ps:=[.val true T59 (ros T59)],rs:=[.val false [.v .bool]],ntmps:=116 } (fun x=>Zko k x)
theorem Zko.ok (k:Nat):Zf Tryz.prog 182 (Zko.con k):=fA (cXr true false (cC (Zeb.ok k) (cC (Znj.ok k) (cC (Zic.ok k) (cC (Zoe.ok k) cN))))) Tryz.func182
def Zso (k:Nat) (a1:Str):Option (Int×Int×Int×Int×Int×Str×List Int×List Int×Bool):=
 Ya (Zec k (a1,(0,false))) fun v2=>
 Ya (Zec k v2.2) fun v3=>
 Ya (Zec k v3.2) fun v4=>
 Ya (Zec k v4.2) fun v5=>
 Ya (Zec k v5.2) fun v6=>
 Ya (Zec k v6.2) fun v7=>
 Ya (Zec k v7.2) fun v8=>
 Ya (Zig k v8.2) fun v9=>
 bif v9.2.2.2||(v9.2.2.1 != ((a1.length):Int)) then
  some (0,0,0,0,0,[],[],[],false)
 else
 Ya (Zeb v7.1 0 16777215) fun v10=>
 bif !v10 then
  some (0,0,0,0,0,[],[],[],false)
 else
 Ya (Zeb v8.1 0 16777215) fun v11=>
 bif !v11 then
  some (0,0,0,0,0,[],[],[],false)
 else
 Ya (Zdd k v7.1) fun v12=>
 Ya (Zdd k v8.1) fun v13=>
 Ya (Zko k (v2.1,(v3.1,(v4.1,(v5.1,(v6.1,(v9.1,(v12,v13)))))))) fun v14=>
 bif !v14 then
  some (0,0,0,0,0,[],[],[],false)
 else
 some (v2.1,v3.1,v4.1,v5.1,v6.1,v9.1,v12,v13,true)
def Zso.con (k:Nat):Con:=Sig.con { ps:=[.val false .str (ros .str)],rs:=[.val true [.v (.int .i64),.v (.int .i64),.v (.int .i64),.v (.int .i64),.v (.int .i64),.v .str,.own 2 (.int .i64),.own 2 (.int .i64)],.val false [.v .bool]],ntmps:=64 } (fun x=>Zso k x)
theorem Zso.ok (k:Nat):Zf Tryz.prog 126 (Zso.con k):=fA (cX (cC (Zeb.ok k) (cC (Zdd.ok k) (cC (Zec.ok k) (cC (Zig.ok k) (cC (Zko.ok k) cN)))))) Tryz.func126
def Zah (k:Nat) (a1:G27):Option (Int×Int×Int×Int×Int×Str×List Int×List Int×Bool):=
 Ya (Zmj a1.1) fun v2=>
 bif !v2 then
  some (0,0,0,0,0,[],[],[],false)
 else
 Ya (Zne k a1.2) fun v3=>
 bif !v3 then
  some (0,0,0,0,0,[],[],[],false)
 else
 Ya (Z5h a1.2.1) fun v4=>
 bif v4 != (Yb .i64 ((Yb .i64 (3+a1.1))+24)) then
  some (0,0,0,0,0,[],[],[],false)
 else
 Ya (Zxc k a1.2) fun v5=>
 bif decide (v5.2.2.2<0) then
  some (0,0,0,0,0,[],[],[],false)
 else
 Ya (Zso k v5.2.1) fun v6=>
 some (v6.1,v6.2.1,v6.2.2.1,v6.2.2.2.1,v6.2.2.2.2.1,v6.2.2.2.2.2.1,v6.2.2.2.2.2.2.1,v6.2.2.2.2.2.2.2.1,v6.2.2.2.2.2.2.2.2)
def Zah.con (k:Nat):Con:=Sig.con { ps:=[.val true T27 (ros T27)],rs:=[.val true [.v (.int .i64),.v (.int .i64),.v (.int .i64),.v (.int .i64),.v (.int .i64),.v .str,.own 2 (.int .i64),.own 2 (.int .i64)],.val false [.v .bool]],ntmps:=42 } (fun x=>Zah k x)
theorem Zah.ok (k:Nat):Zf Tryz.prog 57 (Zah.con k):=fA (cXr true false (cC (Zxc.ok k) (cC (Zmj.ok k) (cC (Zne.ok k) (cC (Z5h.ok k) (cC (Zso.ok k) cN)))))) Tryz.func57
def Zjo (a1:Str):Option (Bool):=
 some (((a1.length):Int) != 8)
def Zjo.con (k:Nat):Con:=Sig.con { ps:=[.val false .str (ros .str)],rs:=[.val false [.v .bool]],ntmps:=6 } (fun x=>Zjo x)
theorem Zjo.ok (k:Nat):Zf Tryz.prog 128 (Zjo.con k):=fA (cX cN) Tryz.func128
def Zed.l0:Nat→List Str→Int→Int→Option (Unit ⊕ Int)
 | 0,_,_,_=>none
 | j+1,a1,a2,a3=>
  bif decide (a3<a2) then
   Ya (at? a1 a3) fun v4=>
   Ya (Zjo v4) fun v5=>
   bif v5 then
    some (.inr a3)
   else
   Zed.l0 j a1 a2 (Yb .i64 (a3+1))
  else
  some (.inl ())
def Zed (k:Nat) (a1:List Str):Option (Int):=
 Ya (Zed.l0 k a1 ((a1.length):Int) 0) fun
  | .inl y2=>
   some (-1)
  | .inr y3=>
   some y3
def Zed.con (k:Nat):Con:=Sig.con { ps:=[.val false (.sl .str) (ros (.sl .str)),.fn 128 []],rs:=[.val false [.v (.int .i64)]],ntmps:=19 } (fun x=>Zed k x)
def Zed.cok (k:Nat):=cX (cC (Zjo.ok k) cN)
def Zed.l0.s (k:Nat):Summ:=lp 19 { tmps:=[(0,.one (.bor .str)),(1,.fn 128 []),(7,.one (.v (.int .i64))),(8,.one (.v (.int .i64)))],slots:=[],nb:=0 } [(.exit 0,{ tmps:=[],slots:=[],nb:=0 }),(.ret,{ tmps:=[(4,.one (.v (.int .i64)))],slots:=[],nb:=0 })] (fun j x=>Zed.l0 j x.1 x.2.1 x.2.2) k
def Zed.l0.ok (k:Nat):=(lA (Zed.cok k):Zj Tryz.prog _ (.loop (cO (cO (cR (cL (cR (cB Tryz.f183))))))) (Zed.l0.s k))
theorem Zed.ok (k:Nat):Zf Tryz.prog 183 (Zed.con k):=fP (.two .auto (.two (.two .auto (.one (.sum (Zed.l0.s k)))) .auto)) (Zed.cok k) Tryz.func183 (sC (Zed.l0.ok k) sN)
def Zar (k:Nat) (a1:List Str):Option (Bool):=
 Ya (Zed k a1) fun v2=>
 some (decide (0≤v2))
def Zar.con (k:Nat):Con:=Sig.con { ps:=[.val false (.sl .str) (ros (.sl .str)),.fn 128 []],rs:=[.val false [.v .bool]],ntmps:=9 } (fun x=>Zar k x)
theorem Zar.ok (k:Nat):Zf Tryz.prog 127 (Zar.con k):=fA (cX (cC (Zed.ok k) cN)) Tryz.func127
def Zio (k:Nat) (a1:List Str):Option (Bool):=
 Ya (Z5h a1) fun v2=>
 Ya (Zmj v2) fun v3=>
 bif v3 then
  Ya (Zar k a1) fun v4=>
  some (!v4)
 else
 some false
def Zio.con (k:Nat):Con:=Sig.con { ps:=[.val false (.sl .str) (ros (.sl .str))],rs:=[.val false [.v .bool]],ntmps:=11 } (fun x=>Zio k x)
theorem Zio.ok (k:Nat):Zf Tryz.prog 58 (Zio.con k):=fA (cX (cC (Zmj.ok k) (cC (Z5h.ok k) (cC (Zar.ok k) cN)))) Tryz.func58
def Zqd.l0 (k:Nat):Nat→Int→List Str→List Zjb→Int→Int→List Str→Option ((List Str))
 | 0,_,_,_,_,_,_=>none
 | j+1,a1,a2,a3,a4,a5,a6=>
  bif decide (a5<a4) then
   Ya (Zyf k (a2,a3) (Yb .i64 (3+a5))) fun v7=>
   Ya (Zu 16 a6 [v7]) fun v8=>
   Zqd.l0 k j a1 a2 a3 a4 (Yb .i64 (a5+1)) v8
  else
  some a6
def Zqd (k:Nat) (a1:G27):Option (List Str):=
 Ya (Zqd.l0 k k a1.1 a1.2.1 a1.2.2 a1.1 0 []) fun y2=>
 some y2
def Zqd.con (k:Nat):Con:=Sig.con { ps:=[.val true T27 (ros T27)],rs:=[.val false [.own 9 .str]],ntmps:=20 } (fun x=>Zqd k x)
def Zqd.cok (k:Nat):=cXr true false (cC (Zyf.ok k) cN)
def Zqd.l0.s (k:Nat):Summ:=lp 20 { tmps:=[(1,.eptr [.v (.int .i64),.bor .str,.bor Z2]),(3,.one (.own 0)),(6,.one (.v (.int .i64))),(7,.one (.v (.int .i64)))],slots:=[(0,.arr false 9 .str)],nb:=1 } [(.exit 0,{ tmps:=[(3,.one (.own 1))],slots:=[(1,.arr false 9 .str)],nb:=2 })] (fun j x=>Zqd.l0 k j x.1 x.2.1 x.2.2.1 x.2.2.2.1 x.2.2.2.2.1 x.2.2.2.2.2) k
def Zqd.l0.ok (k:Nat):=(lA (Zqd.cok k):Zj Tryz.prog _ (.loop (cO (cO (cR (cL (cR (cR (cB Tryz.f59)))))))) (Zqd.l0.s k))
theorem Zqd.ok (k:Nat):Zf Tryz.prog 59 (Zqd.con k):=fP (.two .auto (.two .auto (.two (.two .auto (.one (.sum (Zqd.l0.s k)))) .auto))) (Zqd.cok k) Tryz.func59 (sC (Zqd.l0.ok k) sN)
def Z9g (a1:G27) (a2:Int):Option (Int):=
 some (Yb .i64 ((Yb .i64 (3+a1.1))+a2))
def Z9g.con (k:Nat):Con:=Sig.con { ps:=[.val true T27 (ros T27),.val false (.int .i64) (ros (.int .i64))],rs:=[.val false [.v (.int .i64)]],ntmps:=10 } (fun x=>Z9g x.1 x.2)
theorem Z9g.ok (k:Nat):Zf Tryz.prog 143 (Z9g.con k):=fA (cXr true false cN) Tryz.func143
def Zui (k:Nat) (a1:G27) (a2:Int):Option (Str):=
 Ya (Z9g a1 a2) fun v3=>
 Ya (Zyf k a1.2 v3) fun v4=>
 some v4
def Zui.con (k:Nat):Con:=Sig.con { ps:=[.val true T27 (ros T27),.val false (.int .i64) (ros (.int .i64))],rs:=[.val false [.v .str]],ntmps:=11 } (fun x=>Zui k x.1 x.2)
theorem Zui.ok (k:Nat):Zf Tryz.prog 130 (Zui.con k):=fA (cXr true false (cC (Zyf.ok k) (cC (Z9g.ok k) cN))) Tryz.func130
def Z4h (a1:Int):Option (Bool):=
 Ya (Zeb a1 0 1000000) fun v2=>
 some v2
def Z4h.con (k:Nat):Con:=Sig.con { ps:=[.val false (.int .i64) (ros (.int .i64))],rs:=[.val false [.v .bool]],ntmps:=5 } (fun x=>Z4h x)
theorem Z4h.ok (k:Nat):Zf Tryz.prog 67 (Z4h.con k):=fA (cX (cC (Zeb.ok k) cN)) Tryz.func67
def Zkc.j0 (a1:Int) (a2:Bool) (a3:Int) (a4:Int) (a5:Int) (a6:Str):Option ((Bool×Int×Int×Int×Str)):=
 bif (a3==3)||(a3==4) then
  Ya (Zeb a5 0 (Yb .i64 (a1-1))) fun v7=>
  some (v7,a3,a4,a5,a6)
 else
 some (a2,a3,a4,a5,a6)
def Zkc.j1 (a1:Bool) (a2:Int) (a3:Int) (a4:Int) (a5:Str):Option ((Bool×Int×Int×Int×Str)):=
 bif (a2==2)||(a2==4) then
  some (((a5.length):Int)==8,a2,a3,a4,a5)
 else
 some (a1,a2,a3,a4,a5)
def Zkc (a1:G29) (a2:Int):Option (Bool):=
 Ya (Zeb a1.2.1 0 (Yb .i64 (a2-1))) fun v3=>
 Ya (Zkc.j0 a2 (a1.2.2.1==0) a1.1 a1.2.1 a1.2.2.1 a1.2.2.2) fun y4=>
 Ya (Zkc.j1 (a1.2.2.2==[]) y4.2.1 y4.2.2.1 y4.2.2.2.1 y4.2.2.2.2) fun y5=>
 bif y5.2.1==5 then
  Ya (Z4h y5.2.2.2.1) fun v6=>
  Ya (Zeb y5.2.1 1 5) fun v7=>
  some (((v7&&(y5.2.2.1==0))&&v6)&&y5.1)
 else
 Ya (Zeb y5.2.1 1 5) fun v8=>
 some (((v8&&v3)&&y4.1)&&y5.1)
def Zkc.con (k:Nat):Con:=Sig.con { ps:=[.val true T29 (ros T29),.val false (.int .i64) (ros (.int .i64))],rs:=[.val false [.v .bool]],ntmps:=65 } (fun x=>Zkc x.1 x.2)
def Zkc.cok (k:Nat):=cX (cC (Zeb.ok k) (cC (Z4h.ok k) cN))
def Zkc.j0.s (k:Nat):Summ:=lq 65 { tmps:=[(1,.one (.v (.int .i64))),(2,.one (.ptr 0 0)),(6,.one (.v .bool))],slots:=[(0,.box 45 [.v (.int .i64),.v (.int .i64),.v (.int .i64),.v .str])],nb:=1 } [(.nrm,{ tmps:=[(6,.one (.v .bool))],slots:=[(0,.box 45 [.v (.int .i64),.v (.int .i64),.v (.int .i64),.v .str])],nb:=1 })] (fun x=>Zkc.j0 x.1 x.2.1 x.2.2.1 x.2.2.2.1 x.2.2.2.2.1 x.2.2.2.2.2)
def Zkc.j0.ok (k:Nat):=(jA (Zkc.cok k):Zj Tryz.prog _ (cL (cR (cR (cB Tryz.f66)))) (Zkc.j0.s k))
def Zkc.j1.s (k:Nat):Summ:=lq 65 { tmps:=[(2,.one (.ptr 0 0)),(7,.one (.v .bool))],slots:=[(0,.box 45 [.v (.int .i64),.v (.int .i64),.v (.int .i64),.v .str])],nb:=1 } [(.nrm,{ tmps:=[(7,.one (.v .bool))],slots:=[(0,.box 45 [.v (.int .i64),.v (.int .i64),.v (.int .i64),.v .str])],nb:=1 })] (fun x=>Zkc.j1 x.1 x.2.1 x.2.2.1 x.2.2.2.1 x.2.2.2.2)
def Zkc.j1.ok (k:Nat):=(jA (Zkc.cok k):Zj Tryz.prog _ (cL (cR (cR (cR (cB Tryz.f66))))) (Zkc.j1.s k))
theorem Zkc.ok (k:Nat):Zf Tryz.prog 66 (Zkc.con k):=fP (.two .auto (.two .auto (.two (.sum (Zkc.j0.s k)) (.two (.sum (Zkc.j1.s k)) .auto)))) (Zkc.cok k) Tryz.func66 (sC (Zkc.j0.ok k) (sC (Zkc.j1.ok k) sN))
def Zqo (k:Nat) (a1:Zot):Option (Int×Int×Int×Str×Str×Int×Bool):=
 Ya (Zec k a1) fun v2=>
 Ya (Zec k v2.2) fun v3=>
 Ya (Zec k v3.2) fun v4=>
 Ya (Zig k v4.2) fun v5=>
 some (v2.1,v3.1,v4.1,v5.1,v5.2.1,v5.2.2.1,v5.2.2.2)
def Zqo.con (k:Nat):Con:=Sig.con { ps:=[.ref 203 Z3j (Zwg Z3j)],rs:=[.val true [.v (.int .i64),.v (.int .i64),.v (.int .i64),.v .str]],ntmps:=12 } (fun x=>Zqo k x)
theorem Zqo.ok (k:Nat):Zf Tryz.prog 218 (Zqo.con k):=fA (cX (cC (Zec.ok k) (cC (Zig.ok k) cN))) Tryz.func218
def Zzl (k:Nat) (a1:Str) (a2:Int):Option (Int×Int×Int×Str×Int):=
 Ya (Zak k a1) fun v3=>
 bif v3.2 != 0 then
  some (0,0,0,[],v3.2)
 else
 Ya (Zec k (v3.1,(0,false))) fun v4=>
 Ya (Zqo k v4.2) fun v5=>
 bif v5.2.2.2.2.2.2||(v5.2.2.2.2.2.1 != ((v3.1.length):Int)) then
  some (0,0,0,[],3)
 else
 Ya (Z4h v4.1) fun v6=>
 bif !v6 then
  some (0,0,0,[],3)
 else
 Ya (Zkc (v5.1,(v5.2.1,(v5.2.2.1,v5.2.2.2.1))) 8) fun v7=>
 bif !v7 then
  some (0,0,0,[],3)
 else
 bif v4.1 != a2 then
  some (0,0,0,[],6)
 else
 some (v5.1,v5.2.1,v5.2.2.1,v5.2.2.2.1,0)
def Zzl.con (k:Nat):Con:=Sig.con { ps:=[.val false .str (ros .str),.val false (.int .i64) (ros (.int .i64))],rs:=[.val true [.v (.int .i64),.v (.int .i64),.v (.int .i64),.v .str],.val false [.v (.int .i64)]],ntmps:=58 } (fun x=>Zzl k x.1 x.2)
theorem Zzl.ok (k:Nat):Zf Tryz.prog 184 (Zzl.con k):=fA (cX (cC (Zkc.ok k) (cC (Z4h.ok k) (cC (Zec.ok k) (cC (Zak.ok k) (cC (Zqo.ok k) cN)))))) Tryz.func184
def Zhf.l0 (k:Nat):Nat→List Str→Int→Int→List G29→Option ((List G29))
 | 0,_,_,_,_=>none
 | j+1,a1,a2,a3,a4=>
  bif decide (a3<a2) then
   Ya (at? a1 a3) fun v5=>
   Ya (Zzl k v5 a3) fun v6=>
   bif v6.2.2.2.2 != 0 then
    some a4
   else
   Ya (Zu 40 a4 [(v6.1,(v6.2.1,(v6.2.2.1,v6.2.2.2.1)))]) fun v7=>
   Zhf.l0 k j a1 a2 (Yb .i64 (a3+1)) v7
  else
  some a4
def Zhf (k:Nat) (a1:List Str):Option (List G29):=
 Ya (Zhf.l0 k k a1 ((a1.length):Int) 0 []) fun y2=>
 some y2
def Zhf.con (k:Nat):Con:=Sig.con { ps:=[.val false (.sl .str) (ros (.sl .str))],rs:=[.val false [.own 45 T29]],ntmps:=29 } (fun x=>Zhf k x)
def Zhf.cok (k:Nat):=cX (cC (Zzl.ok k) cN)
def Zhf.l0.s (k:Nat):Summ:=lp 29 { tmps:=[(3,.one (.own 0)),(8,.one (.bor .str)),(9,.one (.v (.int .i64))),(10,.one (.v (.int .i64)))],slots:=[(0,.arr false 45 T29)],nb:=1 } [(.exit 0,{ tmps:=[(3,.one (.own 1))],slots:=[(1,.arr false 45 T29)],nb:=2 })] (fun j x=>Zhf.l0 k j x.1 x.2.1 x.2.2.1 x.2.2.2) k
def Zhf.l0.ok (k:Nat):=(lA (Zhf.cok k):Zj Tryz.prog _ (.loop (cO (cO (cR (cL (cR (cR (cB Tryz.f131)))))))) (Zhf.l0.s k))
theorem Zhf.ok (k:Nat):Zf Tryz.prog 131 (Zhf.con k):=fP (.two .auto (.two .auto (.two (.two .auto (.one (.sum (Zhf.l0.s k)))) .auto))) (Zhf.cok k) Tryz.func131 (sC (Zhf.l0.ok k) sN)
def Z4c.l0 (k:Nat):Nat→Int→List Str→List Zjb→List Int→Int→Int→List Str→Option ((List Str))
 | 0,_,_,_,_,_,_,_=>none
 | j+1,a1,a2,a3,a4,a5,a6,a7=>
  bif decide (a6<a5) then
   Ya (at? a4 a6) fun v8=>
   Ya (Zui k (a1,(a2,a3)) v8) fun v9=>
   Ya (Zu 16 a7 [v9]) fun v10=>
   Z4c.l0 k j a1 a2 a3 a4 a5 (Yb .i64 (a6+1)) v10
  else
  some a7
def Z4c (k:Nat) (a1:G27) (a2:G59):Option (List G29):=
 Ya (Z8b a2.2.2.2.2.2.2.2 a2.2.2.2.1 ((a2.2.2.2.2.2.2.2.length):Int)) fun v3=>
 Ya (Z4c.l0 k k a1.1 a1.2.1 a1.2.2 v3 ((v3.length):Int) 0 []) fun y4=>
 Ya (Zhf k y4) fun v5=>
 some v5
def Z4c.con (k:Nat):Con:=Sig.con { ps:=[.val true T27 (ros T27),.val true T59 (ros T59)],rs:=[.val false [.own 45 T29]],ntmps:=27 } (fun x=>Z4c k x.1 x.2)
def Z4c.cok (k:Nat):=cXr true false (cC (Zui.ok k) (cC (Zhf.ok k) cN))
def Z4c.l0.s (k:Nat):Summ:=lp 27 { tmps:=[(2,.eptr [.v (.int .i64),.bor .str,.bor Z2]),(5,.one (.own 0)),(12,.one (.bor (.int .i64))),(13,.one (.v (.int .i64))),(14,.one (.v (.int .i64)))],slots:=[(0,.arr false 9 .str)],nb:=1 } [(.exit 0,{ tmps:=[(5,.one (.own 1))],slots:=[(1,.arr false 9 .str)],nb:=2 })] (fun j x=>Z4c.l0 k j x.1 x.2.1 x.2.2.1 x.2.2.2.1 x.2.2.2.2.1 x.2.2.2.2.2.1 x.2.2.2.2.2.2) k
def Z4c.l0.ok (k:Nat):=(lA (Z4c.cok k):Zj Tryz.prog _ (.loop (cO (cO (cR (cL (cR (cR (cB Tryz.f60)))))))) (Z4c.l0.s k))
theorem Z4c.ok (k:Nat):Zf Tryz.prog 60 (Z4c.con k):=fP (.two .auto (.two .auto (.two (.two .auto (.one (.sum (Z4c.l0.s k)))) .auto))) (Z4c.cok k) Tryz.func60 (sC (Z4c.l0.ok k) sN)
def Zuo (a1:G29) (a2:Int):Option (Bool):=
 Ya (Zkc a1 a2) fun v3=>
 some (!v3)
def Zuo.con (k:Nat):Con:=Sig.con { ps:=[.val true T29 (ros T29),.rptr (.int .i64)],rs:=[.val false [.v .bool]],ntmps:=8 } (fun x=>Zuo x.1 x.2)
theorem Zuo.ok (k:Nat):Zf Tryz.prog 133 (Zuo.con k):=fA (cX (cC (Zkc.ok k) cN)) Tryz.func133
def Zvd.l0:Nat→List G29→Int→Int→Int→Option (Int ⊕ (Int×Int))
 | 0,_,_,_,_=>none
 | j+1,a1,a2,a3,a4=>
  bif decide (a3<a2) then
   Ya (at? a1 a3) fun v5=>
   Ya (Zuo v5 a4) fun v6=>
   bif v6 then
    some (.inr (a3,a4))
   else
   Zvd.l0 j a1 a2 (Yb .i64 (a3+1)) a4
  else
  some (.inl a4)
def Zvd (k:Nat) (a1:List G29) (a2:Int):Option (Int×Int):=
 Ya (Zvd.l0 k a1 ((a1.length):Int) 0 a2) fun
  | .inl y3=>
   some ((-1),y3)
  | .inr y4=>
   some (y4.1,y4.2)
def Zvd.con (k:Nat):Con:=Sig.con { ps:=[.val false (.sl T29) (ros (.sl T29)),.fn 133 [(2,(.int .i64),(Zwg (.int .i64)))]],rs:=[.val false [.v (.int .i64)]],ntmps:=19 } (fun x=>Zvd k x.1 x.2)
def Zvd.cok (k:Nat):=cX (cC (Zuo.ok k) cN)
def Zvd.l0.s (k:Nat):Summ:=lp 19 { tmps:=[(0,.one (.bor T29)),(1,.fn 133 [.ptr 0 0]),(7,.one (.v (.int .i64))),(8,.one (.v (.int .i64)))],slots:=[(0,.box 2 [.v (.int .i64)])],nb:=1 } [(.exit 0,{ tmps:=[],slots:=[(0,.box 2 [.v (.int .i64)])],nb:=1 }),(.ret,{ tmps:=[(4,.one (.v (.int .i64)))],slots:=[(0,.box 2 [.v (.int .i64)])],nb:=1 })] (fun j x=>Zvd.l0 j x.1 x.2.1 x.2.2.1 x.2.2.2) k
def Zvd.l0.ok (k:Nat):=(lA (Zvd.cok k):Zj Tryz.prog _ (.loop (cO (cO (cR (cL (cR (cB Tryz.f185))))))) (Zvd.l0.s k))
theorem Zvd.ok (k:Nat):Zf Tryz.prog 185 (Zvd.con k):=fP (.two .auto (.two (.two .auto (.one (.sum (Zvd.l0.s k)))) .auto)) (Zvd.cok k) Tryz.func185 (sC (Zvd.l0.ok k) sN)
def Zkp (k:Nat) (a1:List G29) (a2:Int):Option (Bool×Int):=
 Ya (Zvd k a1 a2) fun v3=>
 some (decide (0≤v3.1),v3.2)
def Zkp.con (k:Nat):Con:=Sig.con { ps:=[.val false (.sl T29) (ros (.sl T29)),.fn 133 [(2,(.int .i64),(Zwg (.int .i64)))]],rs:=[.val false [.v .bool]],ntmps:=9 } (fun x=>Zkp k x.1 x.2)
theorem Zkp.ok (k:Nat):Zf Tryz.prog 132 (Zkp.con k):=fA (cX (cC (Zvd.ok k) cN)) Tryz.func132
def Zsq (a1:G29) (a2:Int):Option (Bool):=
 some ((a1.1 != 5)&&(a1.2.1==a2))
def Zsq.con (k:Nat):Con:=Sig.con { ps:=[.val true T29 (ros T29),.rptr (.int .i64)],rs:=[.val false [.v .bool]],ntmps:=13 } (fun x=>Zsq x.1 x.2)
theorem Zsq.ok (k:Nat):Zf Tryz.prog 186 (Zsq.con k):=fA (cX cN) Tryz.func186
def Zwd.l0:Nat→List G29→Int→Int→Int→Option (Int ⊕ (Int×Int))
 | 0,_,_,_,_=>none
 | j+1,a1,a2,a3,a4=>
  bif decide (a3<a2) then
   Ya (at? a1 a3) fun v5=>
   Ya (Zsq v5 a4) fun v6=>
   bif v6 then
    some (.inr (a3,a4))
   else
   Zwd.l0 j a1 a2 (Yb .i64 (a3+1)) a4
  else
  some (.inl a4)
def Zwd (k:Nat) (a1:List G29) (a2:Int):Option (Int×Int):=
 Ya (Zwd.l0 k a1 ((a1.length):Int) 0 a2) fun
  | .inl y3=>
   some ((-1),y3)
  | .inr y4=>
   some (y4.1,y4.2)
def Zwd.con (k:Nat):Con:=Sig.con { ps:=[.val false (.sl T29) (ros (.sl T29)),.fn 186 [(2,(.int .i64),(Zwg (.int .i64)))]],rs:=[.val false [.v (.int .i64)]],ntmps:=19 } (fun x=>Zwd k x.1 x.2)
def Zwd.cok (k:Nat):=cX (cC (Zsq.ok k) cN)
def Zwd.l0.s (k:Nat):Summ:=lp 19 { tmps:=[(0,.one (.bor T29)),(1,.fn 186 [.ptr 0 0]),(7,.one (.v (.int .i64))),(8,.one (.v (.int .i64)))],slots:=[(0,.box 2 [.v (.int .i64)])],nb:=1 } [(.exit 0,{ tmps:=[],slots:=[(0,.box 2 [.v (.int .i64)])],nb:=1 }),(.ret,{ tmps:=[(4,.one (.v (.int .i64)))],slots:=[(0,.box 2 [.v (.int .i64)])],nb:=1 })] (fun j x=>Zwd.l0 j x.1 x.2.1 x.2.2.1 x.2.2.2) k
def Zwd.l0.ok (k:Nat):=(lA (Zwd.cok k):Zj Tryz.prog _ (.loop (cO (cO (cR (cL (cR (cB Tryz.f185))))))) (Zwd.l0.s k))
theorem Zwd.ok (k:Nat):Zf Tryz.prog 185 (Zwd.con k):=fP (.two .auto (.two (.two .auto (.one (.sum (Zwd.l0.s k)))) .auto)) (Zwd.cok k) Tryz.func185 (sC (Zwd.l0.ok k) sN)
def Zvo (k:Nat) (a1:List G29) (a2:Int):Option (Int):=
 Ya (Zwd k a1 a2) fun v3=>
 some v3.1
def Zvo.con (k:Nat):Con:=Sig.con { ps:=[.val false (.sl T29) (ros (.sl T29)),.val false (.int .i64) (ros (.int .i64))],rs:=[.val false [.v (.int .i64)]],ntmps:=8 } (fun x=>Zvo k x.1 x.2)
theorem Zvo.ok (k:Nat):Zf Tryz.prog 134 (Zvo.con k):=fA (cX (cC (Zwd.ok k) cN)) Tryz.func134
def Z9c.l0 (k:Nat):Nat→List G29→Int→Bool→List G29→Int→Int→Option (Bool ⊕ Int)
 | 0,_,_,_,_,_,_=>none
 | j+1,a1,a2,a3,a4,a5,a6=>
  bif decide (a6<a5) then
   Ya (at? a4 a6) fun v7=>
   let e8:=Yb .i64 (a6+1)
   bif v7.1 != 5 then
    Ya (Zvo k a1 v7.2.1) fun v9=>
    bif decide (v9<a6) then
     some (.inr 12)
    else
    Z9c.l0 k j a1 a2 a3 a4 a5 e8
   else
   Z9c.l0 k j a1 v7.2.2.1 (a3&&(decide (a2<v7.2.2.1))) a4 a5 e8
  else
  some (.inl a3)
def Z9c (k:Nat) (a1:List G29) (a2:Int):Option (Int):=
 Ya (Zmj a2) fun v3=>
 bif (!v3)||(decide (20<((a1.length):Int))) then
  some 1
 else
 Ya (Zkp k a1 a2) fun v4=>
 bif v4.1 then
  some 1
 else
 Ya (Z9c.l0 k k a1 (-1) true a1 ((a1.length):Int) 0) fun
  | .inl y5=>
   bif !y5 then
    some 8
   else
   some 0
  | .inr y6=>
   some y6
def Z9c.con (k:Nat):Con:=Sig.con { ps:=[.val false (.sl T29) (ros (.sl T29)),.val false (.int .i64) (ros (.int .i64))],rs:=[.val false [.v (.int .i64)]],ntmps:=50 } (fun x=>Z9c k x.1 x.2)
def Z9c.cok (k:Nat):=cX (cC (Zmj.ok k) (cC (Zkp.ok k) (cC (Zvo.ok k) cN)))
def Z9c.l0.s (k:Nat):Summ:=lp 50 { tmps:=[(0,.one (.bor T29)),(5,.one (.v (.int .i64))),(6,.one (.v .bool)),(22,.one (.bor T29)),(23,.one (.v (.int .i64))),(24,.one (.v (.int .i64)))],slots:=[],nb:=1 } [(.exit 0,{ tmps:=[(6,.one (.v .bool))],slots:=[],nb:=1 }),(.ret,{ tmps:=[(4,.one (.v (.int .i64)))],slots:=[],nb:=1 })] (fun j x=>Z9c.l0 k j x.1 x.2.1 x.2.2.1 x.2.2.2.1 x.2.2.2.2.1 x.2.2.2.2.2) k
def Z9c.l0.ok (k:Nat):=(lA (Z9c.cok k):Zj Tryz.prog _ (.loop (cO (cO (cR (cL (cR (cR (cR (cR (cB Tryz.f61)))))))))) (Z9c.l0.s k))
theorem Z9c.ok (k:Nat):Zf Tryz.prog 61 (Z9c.con k):=fP (.two .auto (.two .auto (.two .auto (.two .auto (.two (.two .auto (.one (.sum (Z9c.l0.s k)))) .auto))))) (Z9c.cok k) Tryz.func61 (sC (Z9c.l0.ok k) sN)
def Zwk (a1:G29):Option (Bool):=
 some (a1.1==5)
def Zwk.con (k:Nat):Con:=Sig.con { ps:=[.val true T29 (ros T29)],rs:=[.val false [.v .bool]],ntmps:=6 } (fun x=>Zwk x)
theorem Zwk.ok (k:Nat):Zf Tryz.prog 189 (Zwk.con k):=fA (cX cN) Tryz.func189
def Zxd.l0:Nat→List G29→Int→Int→Option (Unit ⊕ Int)
 | 0,_,_,_=>none
 | j+1,a1,a2,a3=>
  bif decide (a3<a2) then
   Ya (at? a1 a3) fun v4=>
   Ya (Zwk v4) fun v5=>
   bif v5 then
    some (.inr a3)
   else
   Zxd.l0 j a1 a2 (Yb .i64 (a3+1))
  else
  some (.inl ())
def Zxd (k:Nat) (a1:List G29):Option (Int):=
 Ya (Zxd.l0 k a1 ((a1.length):Int) 0) fun
  | .inl y2=>
   some (-1)
  | .inr y3=>
   some y3
def Zxd.con (k:Nat):Con:=Sig.con { ps:=[.val false (.sl T29) (ros (.sl T29)),.fn 189 []],rs:=[.val false [.v (.int .i64)]],ntmps:=19 } (fun x=>Zxd k x)
def Zxd.cok (k:Nat):=cX (cC (Zwk.ok k) cN)
def Zxd.l0.s (k:Nat):Summ:=lp 19 { tmps:=[(0,.one (.bor T29)),(1,.fn 189 []),(7,.one (.v (.int .i64))),(8,.one (.v (.int .i64)))],slots:=[],nb:=0 } [(.exit 0,{ tmps:=[],slots:=[],nb:=0 }),(.ret,{ tmps:=[(4,.one (.v (.int .i64)))],slots:=[],nb:=0 })] (fun j x=>Zxd.l0 j x.1 x.2.1 x.2.2) k
def Zxd.l0.ok (k:Nat):=(lA (Zxd.cok k):Zj Tryz.prog _ (.loop (cO (cO (cR (cL (cR (cB Tryz.f185))))))) (Zxd.l0.s k))
theorem Zxd.ok (k:Nat):Zf Tryz.prog 185 (Zxd.con k):=fP (.two .auto (.two (.two .auto (.one (.sum (Zxd.l0.s k)))) .auto)) (Zxd.cok k) Tryz.func185 (sC (Zxd.l0.ok k) sN)
def Z1f.l0:Nat→Int→Int→List G29→Option ((Int×List G29))
 | 0,_,_,_=>none
 | j+1,a1,a2,a3=>
  bif decide (a2<((a3.length):Int)) then
   Ya (at? a3 a2) fun v4=>
   Ya (at? a3 a2) fun v5=>
   Ya (Zwk v5) fun v6=>
   let e7:=Yb .i64 (a2+1)
   bif !v6 then
    Ya (at? a3 a1) fun v8=>
    Ya (at? a3 a1) fun v9=>
    Z1f.l0 j (Yb .i64 (a1+1)) e7 (Ye a3 (Yd a1) v5)
   else
   Z1f.l0 j a1 e7 a3
  else
  some (a1,a3)
def Z1f (k:Nat) (a1:List G29):Option (List G29):=
 Ya (Zxd k a1) fun v2=>
 bif v2==(-1) then
  some a1
 else
 Ya (Z1f.l0 k v2 (Yb .i64 (v2+1)) a1) fun y3=>
 Ya (Zzv y3.1 (y3.2.length)) fun v4=>
 Ya (Z8b (List.take (Yd y3.1) y3.2++Yk (List.length y3.2-Yd y3.1) (0,(0,(0,[])))) 0 y3.1) fun v5=>
 some v5
def Z1f.con (k:Nat):Con:=Sig.con { ps:=[.mv 45 T29,.fn 189 []],rs:=[.val false [.v (.sl T29)]],ntmps:=42 } (fun x=>Z1f k x)
def Z1f.cok (k:Nat):=cXr false true (cC (Zxd.ok k) (cC (Zwk.ok k) cN))
def Z1f.l0.s (k:Nat):Summ:=lp 42 { tmps:=[(0,.one (.own 1)),(1,.fn 189 []),(5,.one (.v (.int .i64))),(6,.one (.v (.int .i64)))],slots:=[(1,.arr false 45 T29)],nb:=2 } [(.exit 0,{ tmps:=[(0,.one (.own 2)),(5,.one (.v (.int .i64)))],slots:=[(2,.arr false 45 T29)],nb:=3 })] (fun j x=>Z1f.l0 j x.1 x.2.1 x.2.2) k
def Z1f.l0.ok (k:Nat):=(lA (Z1f.cok k):Zj Tryz.prog _ (.loop (cO (cO (cR (cL (cR (cR (cR (cB Tryz.f187))))))))) (Z1f.l0.s k))
theorem Z1f.ok (k:Nat):Zf Tryz.prog 187 (Z1f.con k):=fP (.two .auto (.two .auto (.two .auto (.two (.two .auto (.one (.sum (Z1f.l0.s k)))) .auto)))) (Z1f.cok k) Tryz.func187 (sC (Z1f.l0.ok k) sN)
def Z5i (a:List G29):Option (List G29):=Ya (Zu 40 [] a) fun y=>some y
def Z5i.sig:Sig:={ ps:=[.val false (.sl T29) (ros (.sl T29))],rs:=[.val false [.own 45 T29]],ntmps:=8 }
def Z5i.con (k:Nat):Con:=Z5i.sig.con (fun x=>Z5i x)
theorem Z5i.ok (k:Nat):Zf Tryz.prog 188 (Z5i.con k):=
 Z60 (e:=45) (C:={ ti:=TAB,con:=Zol [] }) (s:=Z5i.sig) (G:=fun x=>Z5i x) (Zau Zut trivial) Tryz.func188 (by kernel_rfl) rfl (by kernel_rfl) (by kernel_rfl) (by kernel_rfl) rfl rfl rfl rfl rfl rfl (by kernel_rfl) (by kernel_rfl)
  (fun x=>⟨_,_,.inl rfl⟩) (fun x y h=>Eq.trans (b:=Z5i x) (by kernel_rfl) h) (fun x y h hl=>by
   have e:x=([]:List G29):=hl T29 x (.inl (by kernel_rfl))
   subst e
   exact Eq.trans (b:=Z5i []) (by kernel_rfl) h)
def Zyi (k:Nat) (a1:List G29):Option (List G29):=
 Ya (Z5i a1) fun v2=>
 Ya (Z1f k v2) fun v3=>
 some v3
def Zyi.con (k:Nat):Con:=Sig.con { ps:=[.val false (.sl T29) (ros (.sl T29))],rs:=[.val false [.v (.sl T29)]],ntmps:=6 } (fun x=>Zyi k x)
theorem Zyi.ok (k:Nat):Zf Tryz.prog 135 (Zyi.con k):=fA (cX (cC (Z1f.ok k) (cC (Z5i.ok k) cN))) Tryz.func135
def Zes (a1:G29) (a2:Int):Option (Bool):=
 some (((a1.1==3)||(a1.1==4))&&(a1.2.2.1==a2))
def Zes.con (k:Nat):Con:=Sig.con { ps:=[.val true T29 (ros T29),.val false (.int .i64) (ros (.int .i64))],rs:=[.val false [.v .bool]],ntmps:=19 } (fun x=>Zes x.1 x.2)
theorem Zes.ok (k:Nat):Zf Tryz.prog 140 (Zes.con k):=fA (cX cN) Tryz.func140
def Zpo (a1:Int) (a2:Int) (a3:List G29) (a4:Int):Option (Bool):=
 bif a1 != a2 then
  Ya (at? a3 a1) fun v5=>
  Ya (Zes v5 a4) fun v6=>
  some v6
 else
 some false
def Zpo.con (k:Nat):Con:=Sig.con { ps:=[.val false (.int .i64) (ros (.int .i64)),.rptr (.int .i64),.rptr (.sl T29),.rptr (.int .i64)],rs:=[.val false [.v .bool]],ntmps:=17 } (fun x=>Zpo x.1 x.2.1 x.2.2.1 x.2.2.2)
theorem Zpo.ok (k:Nat):Zf Tryz.prog 139 (Zpo.con k):=fA (cX (cC (Zes.ok k) cN)) Tryz.func139
def Zyd.l0:Nat→List Int→List G29→Int→Int→Int→Int→Option ((Int×Int) ⊕ (Int×Int×Int))
 | 0,_,_,_,_,_,_=>none
 | j+1,a1,a2,a3,a4,a5,a6=>
  bif decide (a4<a3) then
   Ya (at? a1 a4) fun v7=>
   Ya (Zpo v7 a5 a2 a6) fun v8=>
   bif v8 then
    some (.inr (a4,a5,a6))
   else
   Zyd.l0 j a1 a2 a3 (Yb .i64 (a4+1)) a5 a6
  else
  some (.inl (a5,a6))
def Zyd (k:Nat) (a1:List Int) (a2:Int) (a3:List G29) (a4:Int):Option (Int×Int×Int):=
 Ya (Zyd.l0 k a1 a3 ((a1.length):Int) 0 a2 a4) fun
  | .inl y5=>
   some ((-1),y5.1,y5.2)
  | .inr y6=>
   some (y6.1,y6.2.1,y6.2.2)
def Zyd.con (k:Nat):Con:=Sig.con { ps:=[.val false (.sl (.int .i64)) (ros (.sl (.int .i64))),.fn 139 [(3,(.int .i64),(Zwg (.int .i64))),(4000000,(.sl T29),[.ro]),(2,(.int .i64),(Zwg (.int .i64)))]],rs:=[.val false [.v (.int .i64)]],ntmps:=19 } (fun x=>Zyd k x.1 x.2.1 x.2.2.1 x.2.2.2)
def Zyd.cok (k:Nat):=cX (cC (Zpo.ok k) cN)
def Zyd.l0.s (k:Nat):Summ:=lp 19 { tmps:=[(0,.one (.bor (.int .i64))),(1,.fn 139 [.ptr 0 0,.rp (.sl T29),.ptr 1 0]),(7,.one (.v (.int .i64))),(8,.one (.v (.int .i64)))],slots:=[(0,.box 3 [.v (.int .i64)]),(1,.box 2 [.v (.int .i64)])],nb:=2 } [(.exit 0,{ tmps:=[],slots:=[(0,.box 3 [.v (.int .i64)]),(1,.box 2 [.v (.int .i64)])],nb:=2 }),(.ret,{ tmps:=[(4,.one (.v (.int .i64)))],slots:=[(0,.box 3 [.v (.int .i64)]),(1,.box 2 [.v (.int .i64)])],nb:=2 })] (fun j x=>Zyd.l0 j x.1 x.2.1 x.2.2.1 x.2.2.2.1 x.2.2.2.2.1 x.2.2.2.2.2) k
def Zyd.l0.ok (k:Nat):=(lA (Zyd.cok k):Zj Tryz.prog _ (.loop (cO (cO (cR (cL (cR (cB Tryz.f136))))))) (Zyd.l0.s k))
theorem Zyd.ok (k:Nat):Zf Tryz.prog 136 (Zyd.con k):=fP (.two .auto (.two (.two .auto (.one (.sum (Zyd.l0.s k)))) .auto)) (Zyd.cok k) Tryz.func136 (sC (Zyd.l0.ok k) sN)
def Zlp (k:Nat) (a1:List Int) (a2:Int) (a3:List G29) (a4:Int):Option (Bool×Int×Int):=
 Ya (Zyd k a1 a2 a3 a4) fun v5=>
 some (decide (0≤v5.1),v5.2.1,v5.2.2)
def Zlp.con (k:Nat):Con:=Sig.con { ps:=[.val false (.sl (.int .i64)) (ros (.sl (.int .i64))),.fn 139 [(3,(.int .i64),(Zwg (.int .i64))),(4000000,(.sl T29),[.ro]),(2,(.int .i64),(Zwg (.int .i64)))]],rs:=[.val false [.v .bool]],ntmps:=9 } (fun x=>Zlp k x.1 x.2.1 x.2.2.1 x.2.2.2)
theorem Zlp.ok (k:Nat):Zf Tryz.prog 138 (Zlp.con k):=fA (cX (cC (Zyd.ok k) cN)) Tryz.func138
def Zoo (k:Nat) (a1:Int) (a2:List G29) (a3:List Int) (a4:List Int):Option (Bool×List Int):=
 Ya (at? a2 a1) fun v5=>
 bif Z6f v5.2.1 a3 then
  some (true,a3)
 else
 Ya (Zlp k a4 a1 a2 v5.2.1) fun v6=>
 some (!v6.1,a3)
def Zoo.con (k:Nat):Con:=Sig.con { ps:=[.val false (.int .i64) (ros (.int .i64)),.rptr (.sl T29),.ref 172 (.sl (.int .i64)) [.own 1000172],.rptr (.sl (.int .i64))],rs:=[.val false [.v .bool]],ntmps:=21 } (fun x=>Zoo k x.1 x.2.1 x.2.2.1 x.2.2.2)
theorem Zoo.ok (k:Nat):Zf Tryz.prog 137 (Zoo.con k):=fA (cX (cC (Zlp.ok k) cN)) Tryz.func137
def Znd.l0 (k:Nat):Nat→List Int→List Int→Int→Int→List G29→List Int→Option ((List G29×List Int) ⊕ (Int×List G29×List Int))
 | 0,_,_,_,_,_,_=>none
 | j+1,a1,a2,a3,a4,a5,a6=>
  bif decide (a4<a3) then
   Ya (at? a1 a4) fun v7=>
   Ya (Zoo k v7 a5 a6 a2) fun v8=>
   bif v8.1 then
    some (.inr (a4,a5,v8.2))
   else
   Znd.l0 k j a1 a2 a3 (Yb .i64 (a4+1)) a5 v8.2
  else
  some (.inl (a5,a6))
def Znd (k:Nat) (a1:List Int) (a2:List G29) (a3:List Int) (a4:List Int):Option (Int×List G29×List Int):=
 Ya (Znd.l0 k k a1 a4 ((a1.length):Int) 0 a2 a3) fun
  | .inl y5=>
   some ((-1),y5.1,y5.2)
  | .inr y6=>
   some (y6.1,y6.2.1,y6.2.2)
def Znd.con (k:Nat):Con:=Sig.con { ps:=[.val false (.sl (.int .i64)) (ros (.sl (.int .i64))),.fn 137 [(100,(.sl T29),(Zwg (.sl T29))),(172,(.sl (.int .i64)),[.own 1000172]),(4000000,(.sl (.int .i64)),[.ro])]],rs:=[.val false [.v (.int .i64)]],ntmps:=19 } (fun x=>Znd k x.1 x.2.1 x.2.2.1 x.2.2.2)
def Znd.cok (k:Nat):=cX (cC (Zoo.ok k) cN)
def Znd.l0.s (k:Nat):Summ:=lp 19 { tmps:=[(0,.one (.bor (.int .i64))),(1,.fn 137 [.ptr 0 0,.ptr 1 0,.rp (.sl (.int .i64))]),(7,.one (.v (.int .i64))),(8,.one (.v (.int .i64)))],slots:=[(0,.box 100 [.v (.sl T29)]),(1,.box 172 [.own 3]),(3,.arr false 1000172 (.int .i64))],nb:=4 } [(.exit 0,{ tmps:=[],slots:=[(0,.box 100 [.v (.sl T29)]),(1,.box 172 [.own 4]),(4,.arr false 1000172 (.int .i64))],nb:=5 }),(.ret,{ tmps:=[(4,.one (.v (.int .i64)))],slots:=[(0,.box 100 [.v (.sl T29)]),(1,.box 172 [.own 4]),(4,.arr false 1000172 (.int .i64))],nb:=5 })] (fun j x=>Znd.l0 k j x.1 x.2.1 x.2.2.1 x.2.2.2.1 x.2.2.2.2.1 x.2.2.2.2.2) k
def Znd.l0.ok (k:Nat):=(lA (Znd.cok k):Zj Tryz.prog _ (.loop (cO (cO (cR (cL (cR (cB Tryz.f136))))))) (Znd.l0.s k))
theorem Znd.ok (k:Nat):Zf Tryz.prog 136 (Znd.con k):=fP (.two .auto (.two (.two .auto (.one (.sum (Znd.l0.s k)))) .auto)) (Znd.cok k) Tryz.func136 (sC (Znd.l0.ok k) sN)
def slices_Delete_int (l:List Int) (i j:Int):Option (List Int):=if 0≤i∧i≤j∧j≤(l.length:Int) then some (l.take i.toNat++l.drop j.toNat) else none
def slices_Delete_int.con (k:Nat):Con:={ ms:=[.mv,.val [.ro],.val [.ro]],f:=fun xs=>match xs with
 | [.mv e (.int .i64) l,.val false [.leaf (.int .i64 i)],.val false [.leaf (.int .i64 j)]]=>bif Nat.beq e 3 then .opt (List Int) (slices_Delete_int l i j) fun r=>⟨[.val false [.own e (.int .i64) r]],[]⟩ else .fail
 | _=>.fail }
theorem slices_Delete_int.drew (w:World) (q:Nat):(w.drewN q).heap=w.heap∧(w.drewN q).os=w.os∧(w.drewN q).tape=w.tape∧(w.drewN q).output=w.output:=⟨rfl,rfl,rfl,rfl⟩
theorem slices_Delete_int.ok (k:Nat):Zf Tryz.prog 141 (slices_Delete_int.con k):=by
 refine ⟨(Zm1 Tryz.func141 (by kernel_rfl) (show Tryz.f141.body=some (cB Tryz.f141) by kernel_rfl)),?_⟩
 intro xs rr hrr w vs F L M hF hnd hgl hargs
 unfold slices_Delete_int.con at hrr
 dsimp only at hrr
 split at hrr
 ·rename_i e l i j
  cases he:Nat.beq e 3 with
  | false=>rw [he] at hrr;cases hrr
  | true=>
  rw [he] at hrr
  have hm:Zt e=false:=by rw [Nat.eq_of_beq_eq_true he];rfl
  replace hrr:(slices_Delete_int l i j).map (fun r=>(⟨[.val false [.own e (.int .i64) r]],[]⟩:RR))=some rr:=hrr
  unfold slices_Delete_int at hrr
  split at hrr
  ·rename_i hij
   obtain ⟨h0,h1,h2⟩:=hij
   cases hrr
   match vs,hargs with
   | [v1,v2,v3],⟨_,_,_,_,hL,hM,⟨rfl,rfl,hrow⟩,_,_,_,_,hL2,hM2,⟨rfl,hv2,hn2⟩,_,_,_,_,hL3,hM3,⟨rfl,hv3,hn3⟩,hn4,hn5⟩=>
   have hv2:v2 = .int .i64 i:=hv2
   have hv3:v3 = .int .i64 j:=hv3
   subst hv2
   subst hv3
   subst hn2
   subst hn3
   subst hn4
   subst hn5
   subst hL3
   subst hM3
   subst hL2
   subst hM2
   subst hL
   subst hM
   obtain ⟨a,rfl⟩:∃a:Nat,i=(a:Int):=⟨i.toNat,by omega⟩
   obtain ⟨b,rfl⟩:∃b:Nat,j=(b:Int):=⟨j.toNat,by omega⟩
   rw [Yl,Yl]
   rcases hrow.slice hm with ⟨rfl,rfl⟩ | ⟨g,cap,cs,fr,rfl,hh,hun,hfz,hlc,hcs,hcells⟩
   ·have hb0:b=0:=by
     have:(([]:List Int).length:Int)=0:=rfl
     have h2:(b:Int)≤(([]:List Int).length:Int):=h2
     omega
    have ha0:a=0:=by omega
    subst hb0
    subst ha0
    refine (Tryz.slices_Delete_int_empty none 0 w).mono ?_
    rintro e' w' ⟨rfl,rfl⟩
    refine ⟨_,rfl,⟨rfl,rfl,rfl,Yg _,fun _ _ _=>rfl⟩,[],[.row (.slice none 0 0)],?_,Yj,rfl,rfl,Z7b.ok (.inl ⟨rfl,rfl⟩) hm,rfl⟩
    intro c hc q hq
    rw [Yf.1 hc] at hq
    cases hq
   ·have hsz:(Ty.int IntKind.i64).sz=1:=rfl
    rw [hsz,Yh] at hcs
    have hab:a≤b:=by omega
    have hbl:b≤l.length:=by omega
    obtain ⟨rfl,hcapm⟩:=hfz rfl
    have hcell:∀q,q<l.length→w.cell? ⟨g,0+q,none⟩=some (.int .i64 (l.getD q 0)):=by
     intro q hq
     have h3:=hcells q l[q] (List.getElem?_eq_getElem hq)
     have h3:(cs.toList.drop (q*1)).take 1=[.int .i64 l[q]]:=h3
     rw [Yh] at h3
     have h4:cs.toList[q]? = some (.int .i64 l[q]):=by
      have:=congrArg (fun z=>z[0]?) h3
      simpa using this
     rw [cell_of_row w g (0+q) cs e (0,0) hh,Nat.zero_add,← Array.getElem?_toList,h4,List.getD_eq_getElem?_getD,List.getElem?_eq_getElem hq]
     rfl
    refine (Tryz.slices_Delete_int_cells g 0 l.length cap a b l w (Yg _) hlc (by unfold maxLen at hcapm;omega) hab hbl hcell (fun q hq=>by
     simp only [World.frozen?,hh]
     simp)).mono ?_
    rintro e' w' ⟨rfl,q,rfl⟩
    rw [List.take_of_length_le (Yg l.length)]
    obtain ⟨d1,d2,d3,d4⟩:=slices_Delete_int.drew w q
    generalize hvs:((l.take a++l.drop b++Yk (b-a) (0:Int)).map (Value.int .i64))=us
    have hul:us.length=l.length:=by rw [← hvs];simp;omega
    obtain ⟨r1,r2,r3,r4⟩:=Z04 g us 0 (w.drewN q)
    have hh':(w.drewN q).heap[g]? = some (.cells cs e (0,0)):=by rw [d1];exact hh
    have hblk:=Z9q g us 0 cs (w.drewN q) hh' (by omega)
    have hgl:g<w.heap.size:=(Array.getElem?_eq_some_iff.1 hh).1
    have hres:(l.take a++l.drop b).length=l.length-(b-a):=by simp;omega
    refine ⟨_,rfl,⟨r1.trans d2,r2.trans d3,r3.trans d4,by rw [r4,d1];exact Yg _,fun x hx hn=>?_⟩,[],[.row (.slice (some ⟨g,0,none⟩) (l.length-(b-a)) cap)],?_,?_,rfl,rfl,Z7b.ok (.inr ⟨g,cap,_,(0,0),by rw [hres],hblk,.inl rfl,fun _=>⟨rfl,hcapm⟩,by rw [hres];omega,?_,?_⟩) hm,rfl⟩
    ·rw [Zkz g us 0 (w.drewN q) x (fun ex=>hn (by subst ex;exact Yf.2 rfl)),d1]
    ·intro c hc x hx
     rw [Yf.1 hc] at hx
     cases hx
     exact ⟨.inl (Yf.2 rfl),by rw [r4,d1];exact hgl⟩
    ·exact List.nodup_cons.2 ⟨(fun h=>nomatch h),Yj⟩
    ·rw [List.size_toArray,Z2q _ _ _ (by simp;omega),Array.length_toList,hcs,hsz,Yh]
    ·intro x y hx
     show ((overL cs.toList 0 us).toArray.toList.drop (x*1)).take 1=[.int .i64 y]
     have hxl:=(List.getElem?_eq_some_iff.1 hx).1
     have hus:us[x]? = some (.int .i64 y):=by
      rw [← hvs,List.getElem?_map,List.getElem?_append_left hxl,hx]
      rfl
     rw [Yh,List.toList_toArray]
     apply List.ext_getElem?
     intro m
     rw [List.getElem?_take,List.getElem?_drop,Zrl _ _ _ (by simp;omega)]
     cases m with
     | zero=>
      rw [if_pos (by omega),if_neg (by omega),if_pos (by omega),Nat.add_zero,Nat.sub_zero,hus]
      rfl
     | succ m=>rw [if_neg (by omega)];rfl
  ·cases hrr
 ·cases hrr
def Zkb.l0:Nat→Int→Int→List Int→Option ((List Int))
 | 0,_,_,_=>none
 | j+1,a1,a2,a3=>
  bif decide (a2<a1) then
   Ya (at? a3 a2) fun v4=>
   Ya (at? a3 a2) fun v5=>
   Zkb.l0 j a1 (Yb .i64 (a2+1)) (Ye a3 (Yd a2) a2)
  else
  some a3
def Zkb.l1 (k:Nat):Nat→List G29→List Z7c→List Int→List Int→Option ((List G29×List Z7c×List Int×List Int))
 | 0,_,_,_,_=>none
 | j+1,a1,a2,a3,a4=>
  bif decide (0<((a3.length):Int)) then
   Ya (Znd k a3 a1 a4 a3) fun v5=>
   bif decide (v5.1<0) then
    Ya (at? a3 0) fun v6=>
    Ya (at? a3 0) fun v7=>
    let e8:=at? v5.2.1 v7
    Ya (e8) fun v9=>
    Ya (Zu 32 a2 [(1,(v7,(v9.2.1,((v5.2.2.length):Int))))]) fun v10=>
    Ya (e8) fun v11=>
    Zkb.l1 k j v5.2.1 v10 a3 (Z5g v11.2.1 v5.2.2)
   else
   let e12:=at? a3 v5.1
   Ya (e12) fun v13=>
   Ya (e12) fun v14=>
   Ya (at? v5.2.1 v14) fun v15=>
   Ya (Zu 32 a2 [(2,(v14,(v15.2.1,0)))]) fun v16=>
   Ya (slices_Delete_int a3 v5.1 (Yb .i64 (v5.1+1))) fun v17=>
   Zkb.l1 k j v5.2.1 v16 v17 v5.2.2
  else
  some (a1,a2,a3,a4)
def Zkb (k:Nat) (a1:List G29):Option (List Z7c):=
 Ya (Zyi k a1) fun v2=>
 Ya (Zlg 8 ((v2.length):Int) ((v2.length):Int) 0) fun v3=>
 Ya (Zkb.l0 k ((v3.length):Int) 0 v3) fun y4=>
 Ya (Zkb.l1 k k v2 [] y4 []) fun y5=>
 some y5.2.1
def Zkb.con (k:Nat):Con:=Sig.con { ps:=[.val false (.sl T29) (ros (.sl T29))],rs:=[.val false [.own 107 Z2b]],ntmps:=76 } (fun x=>Zkb k x)
def Zkb.cok (k:Nat):=cX (cC (Zyi.ok k) (cC (Znd.ok k) (cC (slices_Delete_int.ok k) cN)))
def Zkb.l0.s (k:Nat):Summ:=lp 76 { tmps:=[(4,.one (.ptr 2 0)),(17,.one (.v (.int .i64))),(18,.one (.v (.int .i64)))],slots:=[(2,.box 171 [.own 3]),(3,.arr false 3 (.int .i64))],nb:=4 } [(.exit 0,{ tmps:=[],slots:=[(2,.box 171 [.own 4]),(4,.arr false 3 (.int .i64))],nb:=5 })] (fun j x=>Zkb.l0 j x.1 x.2.1 x.2.2) k
def Zkb.l0.ok (k:Nat):=(lA (Zkb.cok k):Zj Tryz.prog _ (.loop (cO (cO (cR (cL (cR (cR (cR (cB Tryz.f62))))))))) (Zkb.l0.s k))
def Zkb.l1.s (k:Nat):Summ:=lp 76 { tmps:=[(3,.one (.ptr 0 0)),(4,.one (.ptr 2 0)),(6,.one (.ptr 6 0)),(7,.one (.own 7))],slots:=[(0,.box 100 [.v (.sl T29)]),(2,.box 171 [.own 8]),(6,.box 172 [.own 9]),(7,.arr false 107 Z2b),(8,.arr false 3 (.int .i64)),(9,.arr false 1000172 (.int .i64))],nb:=10 } [(.exit 2,{ tmps:=[(7,.one (.own 10))],slots:=[(0,.box 100 [.v (.sl T29)]),(2,.box 171 [.own 11]),(6,.box 172 [.own 12]),(10,.arr false 107 Z2b),(11,.arr false 3 (.int .i64)),(12,.arr false 1000172 (.int .i64))],nb:=13 })] (fun j x=>Zkb.l1 k j x.1 x.2.1 x.2.2.1 x.2.2.2) k
def Zkb.l1.ok (k:Nat):=(lA (Zkb.cok k):Zj Tryz.prog _ (.loop (cO (cO (cL (cR (cR (cR (cR (cR (cR (cB Tryz.f62))))))))))) (Zkb.l1.s k))
theorem Zkb.ok (k:Nat):Zf Tryz.prog 62 (Zkb.con k):=fP (.two .auto (.two .auto (.two .auto (.two (.two .auto (.one (.sum (Zkb.l0.s k)))) (.two .auto (.two .auto (.two (.one (.sum (Zkb.l1.s k))) .auto))))))) (Zkb.cok k) Tryz.func62 (sC (Zkb.l0.ok k) (sC (Zkb.l1.ok k) sN))
def Zae.l0:Nat→Int→List Z7c→Int→Int→Option (Int)
 | 0,_,_,_,_=>none
 | j+1,a1,a2,a3,a4=>
  bif decide (a4<a3) then
   Ya (at? a2 a4) fun v5=>
   let e6:=Yb .i64 (a4+1)
   bif v5.1==1 then
    Zae.l0 j (Yb .i64 (a1+1)) a2 a3 e6
   else
   Zae.l0 j a1 a2 a3 e6
  else
  some a1
def Zae (k:Nat) (a1:List Z7c):Option (Int):=
 Ya (Zae.l0 k 0 a1 ((a1.length):Int) 0) fun y2=>
 some y2
def Zae.con (k:Nat):Con:=Sig.con { ps:=[.val false (.sl Z2b) (ros (.sl Z2b))],rs:=[.val false [.v (.int .i64)]],ntmps:=19 } (fun x=>Zae k x)
def Zae.cok (k:Nat):=cX cN
def Zae.l0.s (k:Nat):Summ:=lp 19 { tmps:=[(3,.one (.v (.int .i64))),(6,.one (.bor Z2b)),(7,.one (.v (.int .i64))),(8,.one (.v (.int .i64)))],slots:=[],nb:=0 } [(.exit 0,{ tmps:=[(3,.one (.v (.int .i64)))],slots:=[],nb:=0 })] (fun j x=>Zae.l0 j x.1 x.2.1 x.2.2.1 x.2.2.2) k
def Zae.l0.ok (k:Nat):=(lA (Zae.cok k):Zj Tryz.prog _ (.loop (cO (cO (cR (cL (cR (cR (cB Tryz.f63)))))))) (Zae.l0.s k))
theorem Zae.ok (k:Nat):Zf Tryz.prog 63 (Zae.con k):=fP (.two .auto (.two .auto (.two (.two .auto (.one (.sum (Zae.l0.s k)))) .auto))) (Zae.cok k) Tryz.func63 (sC (Zae.l0.ok k) sN)
def Zvk (a1:List Z7c):Option (Int):=
 some ((a1.length):Int)
def Zvk.con (k:Nat):Con:=Sig.con { ps:=[.val false (.sl Z2b) (ros (.sl Z2b))],rs:=[.val false [.v (.int .i64)]],ntmps:=5 } (fun x=>Zvk x)
theorem Zvk.ok (k:Nat):Zf Tryz.prog 64 (Zvk.con k):=fA (cX cN) Tryz.func64
def Z2m (k:Nat) (a1:G27):Option (Bool):=
 Ya (Zah k a1) fun v2=>
 bif !v2.2.2.2.2.2.2.2.2 then
  some false
 else
 Ya (Zqd k a1) fun v3=>
 Ya (Zio k v3) fun v4=>
 bif !v4 then
  some false
 else
 bif (v2.1==1)||(v2.1==2) then
  some true
 else
 Ya (Z4c k a1 (v2.1,(v2.2.1,(v2.2.2.1,(v2.2.2.2.1,(v2.2.2.2.2.1,(v2.2.2.2.2.2.1,(v2.2.2.2.2.2.2.1,v2.2.2.2.2.2.2.2.1)))))))) fun v5=>
 Ya (Z9c k v5 a1.1) fun v6=>
 bif v6 != 0 then
  some false
 else
 Ya (Zkb k v5) fun v7=>
 Ya (Zae k v7) fun v8=>
 bif decide (v8≤v2.2.2.2.1) then
  Ya (Zvk v7) fun v9=>
  some (decide (v2.2.2.2.2.1≤v9))
 else
 some false
def Z2m.con (k:Nat):Con:=Sig.con { ps:=[.val true T27 (ros T27)],rs:=[.val false [.v .bool]],ntmps:=50 } (fun x=>Z2m k x)
theorem Z2m.ok (k:Nat):Zf Tryz.prog 23 (Z2m.con k):=fA (cXr true false (cC (Zah.ok k) (cC (Zio.ok k) (cC (Zqd.ok k) (cC (Z4c.ok k) (cC (Z9c.ok k) (cC (Zkb.ok k) (cC (Zae.ok k) (cC (Zvk.ok k) cN))))))))) Tryz.func23
def Zgo (a1:G31):Option (Bool):=
 let e2:=(a1.2.2.2.2.1==0)&&((a1.2.2.2.2.2.1==0)&&((a1.2.2.2.2.2.2.1==0)&&(a1.2.2.2.2.2.2.2==[])))
 bif a1.1==1 then
  Ya (Zeb a1.2.1 1 20) fun v3=>
  Ya (Zeb a1.2.2.1 0 4) fun v4=>
  Ya (Zeb a1.1 1 11) fun v5=>
  some ((((v5&&v3)&&v4)&&(((a1.2.2.2.1.length):Int)==32))&&e2)
 else
 let e6:=a1.2.1==0
 let e7:=a1.2.2.1==0
 let e8:=a1.2.2.2.1==[]
 bif a1.1==2 then
  Ya (Zkc a1.2.2.2.2 8) fun v9=>
  Ya (Zeb a1.1 1 11) fun v10=>
  some ((((v10&&e6)&&e7)&&e8)&&v9)
 else
 bif a1.1==9 then
  Ya (Zeb a1.2.1 1 24) fun v11=>
  Ya (Zeb a1.1 1 11) fun v12=>
  some ((((v12&&v11)&&e7)&&e8)&&e2)
 else
 bif a1.1==7 then
  Ya (Z4h a1.2.1) fun v13=>
  Ya (Zeb a1.1 1 11) fun v14=>
  some ((((v14&&v13)&&e7)&&e8)&&e2)
 else
 Ya (Zeb a1.1 1 11) fun v15=>
 some ((((v15&&e6)&&e7)&&e8)&&e2)
def Zgo.con (k:Nat):Con:=Sig.con { ps:=[.val true T31 (ros T31)],rs:=[.val false [.v .bool]],ntmps:=64 } (fun x=>Zgo x)
theorem Zgo.ok (k:Nat):Zf Tryz.prog 24 (Zgo.con k):=fA (cX (cC (Zeb.ok k) (cC (Zkc.ok k) (cC (Z4h.ok k) cN)))) Tryz.func24
def Zdc.j0 (a1:Int) (a2:Int):Option (Int):=
 bif decide (a1<0) then
  some (intBits .xor .u64 (Ym .u64) a2)
 else
 some a2
def Zdc.l1:Nat→Int→List Int→Option ((Int×List Int))
 | 0,_,_=>none
 | j+1,a1,a2=>
  bif decide (127<a1) then
   Ya (Zu 1 a2 [(intBits .or .u8 (Yb .u8 a1) 128)]) fun v3=>
   Ya (Zsb 7) fun v4=>
   Zdc.l1 j (shr .u64 a1 7) v3
  else
  some (a1,a2)
def Zdc (k:Nat) (a1:Int):Option (Str):=
 Ya (Zsb 1) fun v2=>
 Ya (Zdc.j0 a1 (shl .u64 (Yb .u64 a1) 1)) fun y3=>
 Ya (Zdc.l1 k y3 []) fun y4=>
 Ya (Zu 1 y4.2 [(Yb .u8 y4.1)]) fun v5=>
 some (Zlb v5)
def Zdc.con (k:Nat):Con:=Sig.con { ps:=[.val false (.int .i64) (ros (.int .i64))],rs:=[.val false [.v .str]],ntmps:=28 } (fun x=>Zdc k x)
def Zdc.cok (k:Nat):=cX cN
def Zdc.j0.s (k:Nat):Summ:=lq 28 { tmps:=[(0,.one (.v (.int .i64))),(3,.one (.v (.int .u64)))],slots:=[],nb:=0 } [(.nrm,{ tmps:=[(3,.one (.v (.int .u64)))],slots:=[],nb:=0 })] (fun x=>Zdc.j0 x.1 x.2)
def Zdc.j0.ok (k:Nat):=(jA (Zdc.cok k):Zj Tryz.prog _ (cL (cR (cR (cB Tryz.f192)))) (Zdc.j0.s k))
def Zdc.l1.s (k:Nat):Summ:=lp 28 { tmps:=[(3,.one (.v (.int .u64))),(4,.one (.own 0))],slots:=[(0,.arr false 5 (.int .u8))],nb:=1 } [(.exit 0,{ tmps:=[(3,.one (.v (.int .u64))),(4,.one (.own 1))],slots:=[(1,.arr false 5 (.int .u8))],nb:=2 })] (fun j x=>Zdc.l1 j x.1 x.2) k
def Zdc.l1.ok (k:Nat):=(lA (Zdc.cok k):Zj Tryz.prog _ (.loop (cO (cO (cL (cR (cR (cR (cR (cB Tryz.f192))))))))) (Zdc.l1.s k))
theorem Zdc.ok (k:Nat):Zf Tryz.prog 192 (Zdc.con k):=fP (.two .auto (.two .auto (.two (.sum (Zdc.j0.s k)) (.two .auto (.two (.one (.sum (Zdc.l1.s k))) .auto))))) (Zdc.cok k) Tryz.func192 (sC (Zdc.j0.ok k) (sC (Zdc.l1.ok k) sN))
def Zvi (k:Nat) (a1:Str):Option (Str):=
 Ya (Zdc k ((a1.length):Int)) fun v2=>
 Ya (Zmc v2 a1) fun v3=>
 some v3
def Zvi.con (k:Nat):Con:=Sig.con { ps:=[.val false .str (ros .str)],rs:=[.val false [.v .str]],ntmps:=8 } (fun x=>Zvi k x)
theorem Zvi.ok (k:Nat):Zf Tryz.prog 200 (Zvi.con k):=fA (cX (cC (Zdc.ok k) cN)) Tryz.func200
end Go.Proofs.Qz
namespace Go.Proofs.Qz
open Go Go.RowKit
set_option linter.unusedVariables false
set_option linter.defProp false
def Z3m (k:Nat) (a1:Int) (a2:Str):Option (Str):=
 Ya (Zdc k a1) fun v3=>
 Ya (Zvi k a2) fun v4=>
 Ya (Zmc v3 v4) fun v5=>
 Ya (Zwi k v5) fun v6=>
 some v6
def Z3m.con (k:Nat):Con:=Sig.con { ps:=[.val false (.int .i64) (ros (.int .i64)),.val false .str (ros .str)],rs:=[.val false [.v .str]],ntmps:=11 } (fun x=>Z3m k x.1 x.2)
theorem Z3m.ok (k:Nat):Zf Tryz.prog 198 (Z3m.con k):=fA (cX (cC (Zwi.ok k) (cC (Zdc.ok k) (cC (Zvi.ok k) cN)))) Tryz.func198
def Zlo (k:Nat) (a1:G25) (a2:Str):Option (List G89):=
 Ya (Zxc k a1) fun v3=>
 let e4:=Yb .i64 (v3.1+1)
 bif decide (1000000<e4) then
  some ([])
 else
 let e5:=(true,(0,[]))
 bif v3.2.2.2==0 then
  Ya (Z3m k e4 a2) fun v6=>
  some ([(false,(1,v6)),e5])
 else
 Ya (Z3m k e4 a2) fun v7=>
 some ([(false,(0,v7)),e5])
def Zlo.con (k:Nat):Con:=Sig.con { ps:=[.val true T25 (ros T25),.val false .str (ros .str)],rs:=[.val false [.own 89 T89]],ntmps:=28 } (fun x=>Zlo k x.1 x.2)
theorem Zlo.ok (k:Nat):Zf Tryz.prog 147 (Zlo.con k):=fA (cXr true false (cC (Zxc.ok k) (cC (Z3m.ok k) cN))) Tryz.func147
def Zsd.l0 (k:Nat):Nat→Str→List Int→Int→Int→Option (Str)
 | 0,_,_,_,_=>none
 | j+1,a1,a2,a3,a4=>
  bif decide (a4<a3) then
   Ya (at? a2 a4) fun v5=>
   Ya (Zdc k v5) fun v6=>
   Ya (Zmc a1 v6) fun v7=>
   Zsd.l0 k j v7 a2 a3 (Yb .i64 (a4+1))
  else
  some a1
def Zsd (k:Nat) (a1:List Int):Option (Str):=
 Ya (Zsd.l0 k k [] a1 ((a1.length):Int) 0) fun y2=>
 some y2
def Zsd.con (k:Nat):Con:=Sig.con { ps:=[.val false (.sl (.int .i64)) (ros (.sl (.int .i64)))],rs:=[.val false [.v .str]],ntmps:=18 } (fun x=>Zsd k x)
def Zsd.cok (k:Nat):=cX (cC (Zdc.ok k) cN)
def Zsd.l0.s (k:Nat):Summ:=lp 18 { tmps:=[(3,.one (.v .str)),(6,.one (.bor (.int .i64))),(7,.one (.v (.int .i64))),(8,.one (.v (.int .i64)))],slots:=[],nb:=0 } [(.exit 0,{ tmps:=[(3,.one (.v .str))],slots:=[],nb:=0 })] (fun j x=>Zsd.l0 k j x.1 x.2.1 x.2.2.1 x.2.2.2) k
def Zsd.l0.ok (k:Nat):=(lA (Zsd.cok k):Zj Tryz.prog _ (.loop (cO (cO (cR (cL (cR (cR (cB Tryz.f199)))))))) (Zsd.l0.s k))
theorem Zsd.ok (k:Nat):Zf Tryz.prog 199 (Zsd.con k):=fP (.two .auto (.two .auto (.two (.two .auto (.one (.sum (Zsd.l0.s k)))) .auto))) (Zsd.cok k) Tryz.func199 (sC (Zsd.l0.ok k) sN)
def Z4m (k:Nat) (a1:G59):Option (Str):=
 Ya (Zic k a1.2.2.2.2.2.2.1) fun v2=>
 Ya (Zic k a1.2.2.2.2.2.2.2) fun v3=>
 Ya (Zsd k [a1.1,a1.2.1,a1.2.2.1,a1.2.2.2.1,a1.2.2.2.2.1,v2,v3]) fun v4=>
 Ya (Zvi k a1.2.2.2.2.2.1) fun v5=>
 Ya (Zmc v4 v5) fun v6=>
 some v6
def Z4m.con (k:Nat):Con:=Sig.con { ps:=[.val true T59 (ros T59)],rs:=[.val false [.v .str]],ntmps:=25 } (fun x=>Z4m k x)
theorem Z4m.ok (k:Nat):Zf Tryz.prog 148 (Z4m.con k):=fA (cXr true false (cC (Zic.ok k) (cC (Zsd.ok k) (cC (Zvi.ok k) cN)))) Tryz.func148
def Z8d (k:Nat) (a1:G27) (a2:G59):Option (List G89):=
 Ya (Z4m k a2) fun v3=>
 Ya (Zlo k a1.2 v3) fun v4=>
 some v4
def Z8d.con (k:Nat):Con:=Sig.con { ps:=[.val true T27 (ros T27),.val true T59 (ros T59)],rs:=[.val false [.own 89 T89]],ntmps:=10 } (fun x=>Z8d k x.1 x.2)
theorem Z8d.ok (k:Nat):Zf Tryz.prog 72 (Z8d.con k):=fA (cXr true false (cC (Zlo.ok k) (cC (Z4m.ok k) cN))) Tryz.func72
def Zdo (k:Nat) (a1:List Int) (a2:List Int):Option (List Int):=
 Ya (Zic k a1) fun v3=>
 Ya (Zic k a2) fun v4=>
 Ya (Zdd k (intBits .andNot .i64 16777215 (intBits .or .i64 v3 v4))) fun v5=>
 some v5
def Zdo.con (k:Nat):Con:=Sig.con { ps:=[.val false (.sl (.int .i64)) (ros (.sl (.int .i64))),.val false (.sl (.int .i64)) (ros (.sl (.int .i64)))],rs:=[.val false [.own 2 (.int .i64)]],ntmps:=12 } (fun x=>Zdo k x.1 x.2)
theorem Zdo.ok (k:Nat):Zf Tryz.prog 155 (Zdo.con k):=fA (cX (cC (Zdd.ok k) (cC (Zic.ok k) cN))) Tryz.func155
def Zle.l0:Nat→List Int→Int→Int→List Z2j→Option ((List Z2j))
 | 0,_,_,_,_=>none
 | j+1,a1,a2,a3,a4=>
  bif decide (a3<a2) then
   Ya (at? a1 a3) fun v5=>
   let e6:=Yb .i64 (((a4.length):Int)-1)
   let e7:=Yb .i64 (a3+1)
   let e8:=Zu 16 a4 [(v5,1)]
   bif decide (0≤e6) then
    let e9:=at? a4 e6
    Ya (e9) fun v10=>
    Ya (e9) fun v11=>
    Ya (e9) fun v12=>
    Ya (e9) fun v13=>
    bif (Yb .i64 (v11.1+v13.2))==v5 then
     Ya (e9) fun v14=>
     Ya (e9) fun v15=>
     Ya (e9) fun v16=>
     Ya (e9) fun v17=>
     Zle.l0 j a1 a2 e7 (Ye a4 (Yd e6) (v17.1,(Yb .i64 (v15.2+1))))
    else
    Ya (e8) fun v18=>
    Zle.l0 j a1 a2 e7 v18
   else
   Ya (e8) fun v19=>
   Zle.l0 j a1 a2 e7 v19
  else
  some a4
def Zle (k:Nat) (a1:List Int):Option (List Z2j):=
 Ya (Zle.l0 k a1 ((a1.length):Int) 0 []) fun y2=>
 some y2
def Zle.con (k:Nat):Con:=Sig.con { ps:=[.val false (.sl (.int .i64)) (ros (.sl (.int .i64)))],rs:=[.val false [.own 156 Zwh]],ntmps:=48 } (fun x=>Zle k x)
def Zle.cok (k:Nat):=cX cN
def Zle.l0.s (k:Nat):Summ:=lp 48 { tmps:=[(3,.one (.own 0)),(7,.one (.bor (.int .i64))),(8,.one (.v (.int .i64))),(9,.one (.v (.int .i64)))],slots:=[(0,.arr false 156 Zwh)],nb:=1 } [(.exit 0,{ tmps:=[(3,.one (.own 1))],slots:=[(1,.arr false 156 Zwh)],nb:=2 })] (fun j x=>Zle.l0 j x.1 x.2.1 x.2.2.1 x.2.2.2) k
def Zle.l0.ok (k:Nat):=(lA (Zle.cok k):Zj Tryz.prog _ (.loop (cO (cO (cR (cL (cR (cR (cB Tryz.f156)))))))) (Zle.l0.s k))
theorem Zle.ok (k:Nat):Zf Tryz.prog 156 (Zle.con k):=fP (.two .auto (.two .auto (.two (.two .auto (.one (.sum (Zle.l0.s k)))) .auto))) (Zle.cok k) Tryz.func156 (sC (Zle.l0.ok k) sN)
def Zyb.l0:Nat→Int→Int→Int→Int→List Int→Option ((Int×Int×List Int))
 | 0,_,_,_,_,_=>none
 | j+1,a1,a2,a3,a4,a5=>
  bif decide (a2<a1) then
   Ya (Zu 8 a5 [(Yb .i64 (a3+a2))]) fun v6=>
   Zyb.l0 j a1 (Yb .i64 (a2+1)) a3 a4 v6
  else
  some (a3,a4,a5)
def Zyb.l1 (k:Nat):Nat→Int→Int→Int→List Z2j→Option (Unit ⊕ (Bool×List Int))
 | 0,_,_,_,_=>none
 | j+1,a1,a2,a3,a4=>
  bif decide (a3<a2) then
   Ya (at? a4 a3) fun v5=>
   Ya (at? a4 a3) fun v6=>
   bif decide (a1≤v6.2) then
    Ya (Zyb.l0 k a1 0 v6.1 v6.2 []) fun y7=>
    some (.inr (true,y7.2.2))
   else
   Zyb.l1 k j a1 a2 (Yb .i64 (a3+1)) a4
  else
  some (.inl ())
def Zyb (k:Nat) (a1:List Int) (a2:List Int) (a3:Int):Option (List Int×Bool):=
 Ya (Zdo k a1 a2) fun v4=>
 Ya (Znj v4) fun v5=>
 bif decide (v5<a3) then
  some ([],false)
 else
 Ya (Zle k v4) fun v6=>
 Ya (Zyb.l1 k k a3 ((v6.length):Int) 0 v6) fun
  | .inl y7=>
   Ya (Z8b v4 0 a3) fun v8=>
   some (v8,true)
  | .inr y9=>
   some (y9.2,y9.1)
def Zyb.con (k:Nat):Con:=Sig.con { ps:=[.val false (.sl (.int .i64)) (ros (.sl (.int .i64))),.val false (.sl (.int .i64)) (ros (.sl (.int .i64))),.val false (.int .i64) (ros (.int .i64))],rs:=[.val false [.v (.sl (.int .i64))],.val false [.v .bool]],ntmps:=48 } (fun x=>Zyb k x.1 x.2.1 x.2.2)
def Zyb.cok (k:Nat):=cX (cC (Znj.ok k) (cC (Zdo.ok k) (cC (Zle.ok k) cN)))
def Zyb.l0.s (k:Nat):Summ:=lp 48 { tmps:=[(10,.one (.ptr 3 0)),(11,.one (.own 4)),(31,.one (.v (.int .i64))),(32,.one (.v (.int .i64)))],slots:=[(3,.box 156 [.v (.int .i64),.v (.int .i64)]),(4,.arr false 2 (.int .i64))],nb:=5 } [(.exit 2,{ tmps:=[(11,.one (.own 5))],slots:=[(3,.box 156 [.v (.int .i64),.v (.int .i64)]),(5,.arr false 2 (.int .i64))],nb:=6 })] (fun j x=>Zyb.l0 j x.1 x.2.1 x.2.2.1 x.2.2.2.1 x.2.2.2.2) k
def Zyb.l0.ok (k:Nat):=(lA (Zyb.cok k):Zj Tryz.prog _ (.loop (cO (cO (cR (cL (cR (cL (cR (cR (cO (cL (cR (cR (cO (cO (cR (cL (cR (cR (cR (cB Tryz.f80))))))))))))))))))))) (Zyb.l0.s k))
def Zyb.l1.s (k:Nat):Summ:=lp 48 { tmps:=[(2,.one (.v (.int .i64))),(21,.one (.own 2)),(22,.one (.v (.int .i64))),(23,.one (.v (.int .i64)))],slots:=[(2,.arr false 156 Zwh)],nb:=3 } [(.exit 0,{ tmps:=[],slots:=[],nb:=3 }),(.ret,{ tmps:=[(6,.one (.own 3)),(7,.one (.v .bool))],slots:=[(3,.arr false 2 (.int .i64))],nb:=4 })] (fun j x=>Zyb.l1 k j x.1 x.2.1 x.2.2.1 x.2.2.2) k
def Zyb.l1.ok (k:Nat):=(lP (.two .auto (.two .auto (.two (.one (.two .auto (.two .auto (.two (.two .auto (.two (.two .auto (.one (.sum (Zyb.l0.s k)))) .auto)) .auto)))) .auto))) (Zyb.cok k) (sC (Zyb.l0.ok k) sN):Zj Tryz.prog _ (.loop (cO (cO (cR (cL (cR (cR (cR (cB Tryz.f80))))))))) (Zyb.l1.s k))
theorem Zyb.ok (k:Nat):Zf Tryz.prog 80 (Zyb.con k):=fP (.two .auto (.two .auto (.two .auto (.two (.two .auto (.one (.sum (Zyb.l1.s k)))) .auto)))) (Zyb.cok k) Tryz.func80 (sC (Zyb.l1.ok k) sN)
def Zje.l0:Nat→Int→List Str→List Zjb→List Int→Int→Int→List G89→Option ((List G89))
 | 0,_,_,_,_,_,_,_=>none
 | j+1,a1,a2,a3,a4,a5,a6,a7=>
  bif decide (a6<a5) then
   Ya (at? a4 a6) fun v8=>
   Ya (Z9g (a1,(a2,a3)) v8) fun v9=>
   Ya (Zu 32 a7 ([(false,(v9,[]))])) fun v10=>
   Zje.l0 j a1 a2 a3 a4 a5 (Yb .i64 (a6+1)) v10
  else
  some a7
def Zje (k:Nat) (a1:G27) (a2:G59) (a3:G31):Option (List G89×Str×List Int×Int):=
 bif a2.1 != 1 then
  some ([],[],[],10)
 else
 Ya (Zyb k a2.2.2.2.2.2.2.1 [] (Yb .i64 (a3.2.1+a3.2.2.1))) fun v4=>
 bif !v4.2 then
  some ([],[],[],11)
 else
 Ya (Zje.l0 k a1.1 a1.2.1 a1.2.2 v4.1 ((v4.1.length):Int) 0 []) fun y5=>
 Ya (Zu 32 y5 ([(true,(0,[]))])) fun v6=>
 Ya (Z8d k a1 (2,(0,(a3.2.1,(a3.2.2.1,(0,(a3.2.2.2.1,(a2.2.2.2.2.2.2.1,v4.1)))))))) fun v7=>
 Ya (Zu 32 v6 v7) fun v8=>
 some (v8,[],[],0)
def Zje.con (k:Nat):Con:=Sig.con { ps:=[.val true T27 (ros T27),.val true T59 (ros T59),.val true T31 (ros T31)],rs:=[.val true [.own 89 T89,.v .str,.own 2 (.int .i64),.v (.int .i64)]],ntmps:=63 } (fun x=>Zje k x.1 x.2.1 x.2.2)
def Zje.cok (k:Nat):=cXr true false (cC (Z8d.ok k) (cC (Zyb.ok k) (cC (Z9g.ok k) cN)))
def Zje.l0.s (k:Nat):Summ:=lp 63 { tmps:=[(3,.eptr [.v (.int .i64),.bor .str,.bor Z2]),(9,.one (.own 2)),(30,.one (.v (.sl (.int .i64)))),(31,.one (.v (.int .i64))),(32,.one (.v (.int .i64)))],slots:=[(2,.arr false 89 T89)],nb:=3 } [(.exit 0,{ tmps:=[(9,.one (.own 3))],slots:=[(3,.arr false 89 T89)],nb:=4 })] (fun j x=>Zje.l0 j x.1 x.2.1 x.2.2.1 x.2.2.2.1 x.2.2.2.2.1 x.2.2.2.2.2.1 x.2.2.2.2.2.2) k
def Zje.l0.ok (k:Nat):=(lA (Zje.cok k):Zj Tryz.prog _ (.loop (cO (cO (cR (cL (cR (cR (cR (cR (cR (cB Tryz.f69))))))))))) (Zje.l0.s k))
theorem Zje.ok (k:Nat):Zf Tryz.prog 69 (Zje.con k):=fP (.two .auto (.two .auto (.two .auto (.two .auto (.two .auto (.two (.two .auto (.one (.sum (Zje.l0.s k)))) .auto)))))) (Zje.cok k) Tryz.func69 (sC (Zje.l0.ok k) sN)
def Z9j (a1:List G29):Option (Int):=
 some ((a1.length):Int)
def Z9j.con (k:Nat):Con:=Sig.con { ps:=[.val false (.sl T29) (ros (.sl T29))],rs:=[.val false [.v (.int .i64)]],ntmps:=5 } (fun x=>Z9j x)
theorem Z9j.ok (k:Nat):Zf Tryz.prog 77 (Z9j.con k):=fA (cX cN) Tryz.func77
def Zto (k:Nat) (a1:G29):Option (Str):=
 Ya (Zsd k [a1.1,a1.2.1,a1.2.2.1]) fun v2=>
 Ya (Zvi k a1.2.2.2) fun v3=>
 Ya (Zmc v2 v3) fun v4=>
 some v4
def Zto.con (k:Nat):Con:=Sig.con { ps:=[.val true T29 (ros T29)],rs:=[.val false [.v .str]],ntmps:=15 } (fun x=>Zto k x)
theorem Zto.ok (k:Nat):Zf Tryz.prog 193 (Zto.con k):=fA (cX (cC (Zsd.ok k) (cC (Zvi.ok k) cN))) Tryz.func193
def Zro (k:Nat) (a1:Int) (a2:G29):Option (Str):=
 Ya (Zdc k a1) fun v3=>
 Ya (Zto k a2) fun v4=>
 Ya (Zmc v3 v4) fun v5=>
 Ya (Zwi k v5) fun v6=>
 some v6
def Zro.con (k:Nat):Con:=Sig.con { ps:=[.val false (.int .i64) (ros (.int .i64)),.val true T29 (ros T29)],rs:=[.val false [.v .str]],ntmps:=11 } (fun x=>Zro k x.1 x.2)
theorem Zro.ok (k:Nat):Zf Tryz.prog 144 (Zro.con k):=fA (cX (cC (Zwi.ok k) (cC (Zdc.ok k) (cC (Zto.ok k) cN)))) Tryz.func144
def Z9n (k:Nat) (a1:G27) (a2:G59) (a3:List G29) (a4:G29):Option (List G89×Str×List Int×Int):=
 bif a2.1 != 2 then
  some ([],[],[],10)
 else
 Ya (Z9j a3) fun v5=>
 bif v5==a2.2.2.1 then
  some ([],[],[],9)
 else
 Ya (Zu 40 a3 [a4]) fun v6=>
 Ya (Z9c k v6 a1.1) fun v7=>
 bif v7 != 0 then
  some ([],[],[],v7)
 else
 Ya (at? a2.2.2.2.2.2.2.2 (Yb .i64 (a2.2.2.2.1+v5))) fun v8=>
 Ya (Z9g a1 v8) fun v9=>
 Ya (Zro k v5 a4) fun v10=>
 let e11:=[(false,(v9,v10))]
 bif a4.1==5 then
  Ya (Zu 32 e11 ([(true,(0,[]))])) fun v12=>
  some (v12,[],[],0)
 else
 some (e11,[],[],0)
def Z9n.con (k:Nat):Con:=Sig.con { ps:=[.val true T27 (ros T27),.val true T59 (ros T59),.mv 45 T29,.val true T29 (ros T29)],rs:=[.val true [.own 89 T89,.v .str,.own 2 (.int .i64),.v (.int .i64)]],ntmps:=58 } (fun x=>Z9n k x.1 x.2.1 x.2.2.1 x.2.2.2)
theorem Z9n.ok (k:Nat):Zf Tryz.prog 70 (Z9n.con k):=fA (cXr true false (cC (Z9c.ok k) (cC (Z9j.ok k) (cC (Z9g.ok k) (cC (Zro.ok k) cN))))) Tryz.func70
def Z6i (a:List Int):Option (List Int):=Ya (Zu 8 [] a) fun y=>some y
def Z6i.sig:Sig:={ ps:=[.val false (.sl (.int .i64)) (ros (.sl (.int .i64)))],rs:=[.val false [.own 2 (.int .i64)]],ntmps:=8 }
def Z6i.con (k:Nat):Con:=Z6i.sig.con (fun x=>Z6i x)
theorem Z6i.ok (k:Nat):Zf Tryz.prog 149 (Z6i.con k):=
 Z60 (e:=2) (C:={ ti:=TAB,con:=Zol [] }) (s:=Z6i.sig) (G:=fun x=>Z6i x) (Zau Zut trivial) Tryz.func149 (by kernel_rfl) rfl (by kernel_rfl) (by kernel_rfl) (by kernel_rfl) rfl rfl rfl rfl rfl rfl (by kernel_rfl) (by kernel_rfl)
  (fun x=>⟨_,_,.inl rfl⟩) (fun x y h=>Eq.trans (b:=Z6i x) (by kernel_rfl) h) (fun x y h hl=>by
   have e:x=([]:List Int):=hl (.int .i64) x (.inl (by kernel_rfl))
   subst e
   exact Eq.trans (b:=Z6i []) (by kernel_rfl) h)
def Zxi (a1:G59):Option (Int×Int×Int×Int×Int×Str×List Int×List Int):=
 Ya (Z6i a1.2.2.2.2.2.2.1) fun v2=>
 some (1,0,0,0,0,[],v2,[])
def Zxi.con (k:Nat):Con:=Sig.con { ps:=[.val true T59 (ros T59)],rs:=[.val true [.v (.int .i64),.v (.int .i64),.v (.int .i64),.v (.int .i64),.v (.int .i64),.v .str,.own 2 (.int .i64),.own 2 (.int .i64)]],ntmps:=7 } (fun x=>Zxi x)
theorem Zxi.ok (k:Nat):Zf Tryz.prog 73 (Zxi.con k):=fA (cXr true false (cC (Z6i.ok k) cN)) Tryz.func73
def strings_Repeat (a:Str) (n:Int):Option Str:=if 0≤n∧(a.length:Int)*n≤140737488355328∧n≤9223372036854775807 then some (Lib.repeatL a n.toNat) else none
def strings_Repeat.sig:Sig:={ ps:=[.val false .str (ros .str),.val false (.int .i64) (ros (.int .i64))],rs:=[.val false [.v .str]],ntmps:=0 }
def strings_Repeat.con (k:Nat):Con:=strings_Repeat.sig.con (fun x=>strings_Repeat x.1 x.2)
theorem strings_Repeat.ok (k:Nat):Zf Tryz.prog 220 (strings_Repeat.con k):=Zfhb (Zm1 Tryz.func220 (by kernel_rfl) (show Tryz.f220.body=some (cB Tryz.f220) by kernel_rfl)) (by kernel_rfl) (by kernel_rfl) (by
 intro (x:Str×Int) (y:Str) w h
 obtain ⟨a,n⟩:=x
 replace h:strings_Repeat a n=some y:=h
 unfold strings_Repeat at h
 split at h
 ·rename_i h0
  obtain ⟨h0,h1,h2⟩:=h0
  injection h with h
  subst h
  obtain ⟨c,rfl⟩:∃c:Nat,n=(c:Int):=⟨n.toNat,by omega⟩
  have h3:((a.length*c:Nat):Int)≤140737488355328:=by rw [Int.natCast_mul];exact h1
  have h1':a.length*c≤140737488355328:=by omega
  refine (Tryz.strings_Repeat (ba a) c w (by omega) h1').mono ?_
  rintro e w' ⟨rfl,bel⟩
  exact ⟨[.string (ba (Lib.repeatL a c))],rfl,rfl,rfl,bel⟩
 ·cases h)
def Zrd.l0:Nat→Int→Int→List Int→Option ((List Int))
 | 0,_,_,_=>none
 | j+1,a1,a2,a3=>
  bif decide (0≤a2) then
   Ya (at? a3 a2) fun v4=>
   Ya (at? a3 a2) fun v5=>
   Ya (Zsb 8) fun v6=>
   Zrd.l0 j (shr .u64 a1 8) (Yb .i64 (a2-1)) (Ye a3 (Yd a2) (Yb .u8 a1))
  else
  some a3
def Zrd (k:Nat) (a1:Int) (a2:Int):Option (Str):=
 Ya (Zlg 1 a2 a2 0) fun v3=>
 Ya (Zrd.l0 k a1 (Yb .i64 (a2-1)) v3) fun y4=>
 some (Zlb y4)
def Zrd.con (k:Nat):Con:=Sig.con { ps:=[.val false (.int .u64) (ros (.int .u64)),.val false (.int .i64) (ros (.int .i64))],rs:=[.val false [.v .str]],ntmps:=24 } (fun x=>Zrd k x.1 x.2)
def Zrd.cok (k:Nat):=cX cN
def Zrd.l0.s (k:Nat):Summ:=lp 24 { tmps:=[(0,.one (.v (.int .u64))),(5,.one (.own 1)),(6,.one (.v (.int .i64)))],slots:=[(1,.arr false 5 (.int .u8))],nb:=2 } [(.exit 0,{ tmps:=[(5,.one (.own 2))],slots:=[(2,.arr false 5 (.int .u8))],nb:=3 })] (fun j x=>Zrd.l0 j x.1 x.2.1 x.2.2) k
def Zrd.l0.ok (k:Nat):=(lA (Zrd.cok k):Zj Tryz.prog _ (.loop (cO (cO (cR (cL (cR (cR (cB Tryz.f221)))))))) (Zrd.l0.s k))
theorem Zrd.ok (k:Nat):Zf Tryz.prog 221 (Zrd.con k):=fP (.two .auto (.two .auto (.two (.two .auto (.one (.sum (Zrd.l0.s k)))) .auto))) (Zrd.cok k) Tryz.func221 (sC (Zrd.l0.ok k) sN)
def Zco (a1:Str):Option (Int):=
 Ya (at? a1 0) fun v2=>
 Ya (Zsb 24) fun v3=>
 Ya (at? a1 1) fun v4=>
 Ya (Zsb 16) fun v5=>
 Ya (at? a1 2) fun v6=>
 Ya (Zsb 8) fun v7=>
 Ya (at? a1 3) fun v8=>
 some (intBits .or .u32 (intBits .or .u32 (intBits .or .u32 (shl .u32 (Yb .u32 (v2.toNat:Int)) 24) (shl .u32 (Yb .u32 (v4.toNat:Int)) 16)) (shl .u32 (Yb .u32 (v6.toNat:Int)) 8)) (Yb .u32 (v8.toNat:Int)))
def Zco.con (k:Nat):Con:=Sig.con { ps:=[.val false .str (ros .str)],rs:=[.val false [.v (.int .u32)]],ntmps:=21 } (fun x=>Zco x)
theorem Zco.ok (k:Nat):Zf Tryz.prog 234 (Zco.con k):=fA (cX cN) Tryz.func234
def Zbq (a1:Int) (a2:Int):Option (Int):=
 let e3:=intBits .and .u64 (Yb .u64 a2) 31
 Ya (Zsb e3) fun v4=>
 let e5:=Yb .u64 (32-e3)
 Ya (Zsb e5) fun v6=>
 some (intBits .or .u32 (shl .u32 a1 e3) (shr .u32 a1 e5))
def Zbq.con (k:Nat):Con:=Sig.con { ps:=[.val false (.int .u32) (ros (.int .u32)),.val false (.int .i64) (ros (.int .i64))],rs:=[.val false [.v (.int .u32)]],ntmps:=17 } (fun x=>Zbq x.1 x.2)
theorem Zbq.ok (k:Nat):Zf Tryz.prog 245 (Zbq.con k):=fA (cX cN) Tryz.func245
def Zoh (a1:Int) (a2:Int):Option (Int):=
 Ya (Zbq a1 (Yb .i64 (0-a2))) fun v3=>
 some v3
def Zoh.con (k:Nat):Con:=Sig.con { ps:=[.val false (.int .u32) (ros (.int .u32)),.val false (.int .i64) (ros (.int .i64))],rs:=[.val false [.v (.int .u32)]],ntmps:=9 } (fun x=>Zoh x.1 x.2)
theorem Zoh.ok (k:Nat):Zf Tryz.prog 235 (Zoh.con k):=fA (cX (cC (Zbq.ok k) cN)) Tryz.func235
def Zob.l0:Nat→Str→Int→List Int→Option ((List Int))
 | 0,_,_,_=>none
 | j+1,a1,a2,a3=>
  bif decide (a2<64) then
   let e4:=Yb .i64 (a2+1)
   bif decide (a2<16) then
    Ya (Z8b a1 (Yb .i64 (4*a2)) ((a1.length):Int)) fun v5=>
    Ya (Zco v5) fun v6=>
    Ya (at? a3 a2) fun v7=>
    Ya (Z8q a3 a2 v6) fun v8=>
    Zob.l0 j a1 e4 v8
   else
   let e9:=at? a3 (Yb .i64 (a2-15))
   Ya (e9) fun v10=>
   Ya (e9) fun v11=>
   let e12:=at? a3 (Yb .i64 (a2-2))
   Ya (e12) fun v13=>
   Ya (e12) fun v14=>
   Ya (Zoh v11 7) fun v15=>
   Ya (Zoh v11 18) fun v16=>
   Ya (Zsb 3) fun v17=>
   Ya (Zoh v14 17) fun v18=>
   Ya (Zoh v14 19) fun v19=>
   Ya (Zsb 10) fun v20=>
   let e21:=at? a3 (Yb .i64 (a2-16))
   Ya (e21) fun v22=>
   Ya (e21) fun v23=>
   let e24:=at? a3 (Yb .i64 (a2-7))
   Ya (e24) fun v25=>
   Ya (e24) fun v26=>
   Ya (at? a3 a2) fun v27=>
   Ya (Z8q a3 a2 (Yb .u32 ((Yb .u32 ((Yb .u32 (v23+(intBits .xor .u32 (intBits .xor .u32 v15 v16) (shr .u32 v11 3))))+v26))+(intBits .xor .u32 (intBits .xor .u32 v18 v19) (shr .u32 v14 10))))) fun v28=>
   Zob.l0 j a1 e4 v28
  else
  some a3
def Zob.l1:Nat→Int→Int→Int→Int→Int→Int→Int→Int→Int→List Int→Option ((Int×Int×Int×Int×Int×Int×Int×Int))
 | 0,_,_,_,_,_,_,_,_,_,_=>none
 | j+1,a1,a2,a3,a4,a5,a6,a7,a8,a9,a10=>
  bif decide (a9<64) then
   Ya (Zoh a5 6) fun v11=>
   Ya (Zoh a5 11) fun v12=>
   Ya (Zoh a5 25) fun v13=>
   Ya (at? Zkm a9) fun v14=>
   Ya (at? a10 a9) fun v15=>
   Ya (at? a10 a9) fun v16=>
   Ya (Zoh a1 2) fun v17=>
   Ya (Zoh a1 13) fun v18=>
   Ya (Zoh a1 22) fun v19=>
   let e20:=Yb .u32 ((Yb .u32 ((Yb .u32 ((Yb .u32 (a8+(intBits .xor .u32 (intBits .xor .u32 v11 v12) v13)))+(intBits .xor .u32 (intBits .and .u32 a5 a6) (intBits .and .u32 (intBits .xor .u32 (Ym .u32) a5) a7))))+v14))+v16)
   Zob.l1 j (Yb .u32 (e20+(Yb .u32 ((intBits .xor .u32 (intBits .xor .u32 v17 v18) v19)+(intBits .xor .u32 (intBits .xor .u32 (intBits .and .u32 a1 a2) (intBits .and .u32 a1 a3)) (intBits .and .u32 a2 a3)))))) a1 a2 a3 (Yb .u32 (a4+e20)) a5 a6 a7 (Yb .i64 (a9+1)) a10
  else
  some (a1,a2,a3,a4,a5,a6,a7,a8)
def Zob.l2:Nat→Int→Int→Int→Int→Int→Int→Int→Int→Int→List Int→Option ((List Int))
 | 0,_,_,_,_,_,_,_,_,_,_=>none
 | j+1,a1,a2,a3,a4,a5,a6,a7,a8,a9,a10=>
  bif decide (a9<8) then
   Ya (at? [a1,a2,a3,a4,a5,a6,a7,a8] a9) fun v11=>
   Ya (at? a10 a9) fun v12=>
   Ya (at? a10 a9) fun v13=>
   Ya (at? a10 a9) fun v14=>
   Ya (Z8q a10 a9 (Yb .u32 (v13+v11))) fun v15=>
   Zob.l2 j a1 a2 a3 a4 a5 a6 a7 a8 (Yb .i64 (a9+1)) v15
  else
  some a10
def Zob (k:Nat) (a1:List Int) (a2:Str):Option (List Int):=
 Ya (Zob.l0 k a2 0 (Yk 64 (0:Int))) fun y3=>
 Ya (at? a1 0) fun v4=>
 Ya (at? a1 0) fun v5=>
 Ya (at? a1 1) fun v6=>
 Ya (at? a1 1) fun v7=>
 Ya (at? a1 2) fun v8=>
 Ya (at? a1 2) fun v9=>
 Ya (at? a1 3) fun v10=>
 Ya (at? a1 3) fun v11=>
 Ya (at? a1 4) fun v12=>
 Ya (at? a1 4) fun v13=>
 Ya (at? a1 5) fun v14=>
 Ya (at? a1 5) fun v15=>
 Ya (at? a1 6) fun v16=>
 Ya (at? a1 6) fun v17=>
 Ya (at? a1 7) fun v18=>
 Ya (at? a1 7) fun v19=>
 Ya (Zob.l1 k v5 v7 v9 v11 v13 v15 v17 v19 0 y3) fun y20=>
 Ya (Zob.l2 k y20.1 y20.2.1 y20.2.2.1 y20.2.2.2.1 y20.2.2.2.2.1 y20.2.2.2.2.2.1 y20.2.2.2.2.2.2.1 y20.2.2.2.2.2.2.2 0 a1) fun y21=>
 some y21
def Zob.con (k:Nat):Con:=Sig.con { ps:=[.val false (.sl (.int .u32)) [.own 2000008],.val false .str (ros .str)],rs:=[],ntmps:=193 } (fun x=>Zob k x.1 x.2)
def Zob.cok (k:Nat):=cX (cC (Zco.ok k) (cC (Zoh.ok k) cN))
def Zob.l0.s (k:Nat):Summ:=lp 193 { tmps:=[(1,.one (.v .str)),(4,.one (.own 2)),(23,.one (.v (.int .i64)))],slots:=[(2,.arr false 2000064 (.int .u32))],nb:=3 } [(.exit 0,{ tmps:=[(4,.one (.own 3))],slots:=[(3,.arr false 2000064 (.int .u32))],nb:=4 })] (fun j x=>Zob.l0 j x.1 x.2.1 x.2.2) k
def Zob.l0.ok (k:Nat):=(lA (Zob.cok k):Zj Tryz.prog _ (.loop (cO (cO (cR (cL (cR (cB Tryz.f222))))))) (Zob.l0.s k))
def Zob.l1.s (k:Nat):Summ:=lp 193 { tmps:=[(4,.one (.own 4)),(10,.one (.v (.int .u32))),(11,.one (.v (.int .u32))),(12,.one (.v (.int .u32))),(13,.one (.v (.int .u32))),(14,.one (.v (.int .u32))),(15,.one (.v (.int .u32))),(16,.one (.v (.int .u32))),(17,.one (.v (.int .u32))),(107,.one (.v (.int .i64)))],slots:=[(4,.arr false 2000064 (.int .u32))],nb:=5 } [(.exit 2,{ tmps:=[(10,.one (.v (.int .u32))),(11,.one (.v (.int .u32))),(12,.one (.v (.int .u32))),(13,.one (.v (.int .u32))),(14,.one (.v (.int .u32))),(15,.one (.v (.int .u32))),(16,.one (.v (.int .u32))),(17,.one (.v (.int .u32)))],slots:=[],nb:=5 })] (fun j x=>Zob.l1 j x.1 x.2.1 x.2.2.1 x.2.2.2.1 x.2.2.2.2.1 x.2.2.2.2.2.1 x.2.2.2.2.2.2.1 x.2.2.2.2.2.2.2.1 x.2.2.2.2.2.2.2.2.1 x.2.2.2.2.2.2.2.2.2) k
def Zob.l1.ok (k:Nat):=(lA (Zob.cok k):Zj Tryz.prog _ (.loop (cO (cO (cR (cL (cR (cR (cR (cB Tryz.f222))))))))) (Zob.l1.s k))
def Zob.l2.s (k:Nat):Summ:=lp 193 { tmps:=[(0,.one (.pin 0)),(178,.agg [.v (.int .u32),.v (.int .u32),.v (.int .u32),.v (.int .u32),.v (.int .u32),.v (.int .u32),.v (.int .u32),.v (.int .u32)]),(179,.one (.v (.int .i64)))],slots:=[(0,.pin 2000008 (.int .u32))],nb:=5 } [(.exit 4,{ tmps:=[],slots:=[(0,.pin 2000008 (.int .u32))],nb:=5 })] (fun j x=>Zob.l2 j x.1 x.2.1 x.2.2.1 x.2.2.2.1 x.2.2.2.2.1 x.2.2.2.2.2.1 x.2.2.2.2.2.2.1 x.2.2.2.2.2.2.2.1 x.2.2.2.2.2.2.2.2.1 x.2.2.2.2.2.2.2.2.2) k
def Zob.l2.ok (k:Nat):=(lA (Zob.cok k):Zj Tryz.prog _ (.loop (cO (cO (cR (cR (cR (cR (cR (cB Tryz.f222))))))))) (Zob.l2.s k))
theorem Zob.ok (k:Nat):Zf Tryz.prog 222 (Zob.con k):=fP (.two .auto (.two (.two .auto (.one (.sum (Zob.l0.s k)))) (.two .auto (.two (.two .auto (.one (.sum (Zob.l1.s k)))) (.two .auto (.one (.sum (Zob.l2.s k)))))))) (Zob.cok k) Tryz.func222 (sC (Zob.l0.ok k) (sC (Zob.l1.ok k) (sC (Zob.l2.ok k) sN)))
def Zjc.l0 (k:Nat):Nat→Str→List Int→Option ((List Int))
 | 0,_,_=>none
 | j+1,a1,a2=>
  bif !(a1==[]) then
   Ya (Z8b a1 0 64) fun v3=>
   Ya (Zob k a2 v3) fun v4=>
   Ya (Z8b a1 64 ((a1.length):Int)) fun v5=>
   Zjc.l0 k j v5 v4
  else
  some a2
def Zjc.l1 (k:Nat):Nat→Str→Int→Int→Int→Int→Int→Int→Int→Int→Int→Option (Str)
 | 0,_,_,_,_,_,_,_,_,_,_=>none
 | j+1,a1,a2,a3,a4,a5,a6,a7,a8,a9,a10=>
  bif decide (a10<8) then
   Ya (at? [a2,a3,a4,a5,a6,a7,a8,a9] a10) fun v11=>
   Ya (Zrd k (Yb .u64 v11) 4) fun v12=>
   Ya (Zmc a1 v12) fun v13=>
   Zjc.l1 k j v13 a2 a3 a4 a5 a6 a7 a8 a9 (Yb .i64 (a10+1))
  else
  some a1
def Zjc (k:Nat) (a1:Str):Option (Str):=
 Ya (nz? 64) fun v2=>
 Ya (nz? 64) fun v3=>
 Ya (Zmc a1 ([128]:Str)) fun v4=>
 Ya (strings_Repeat ([0]:Str) (Int.tmod (Yb .i64 (119-(Int.tmod ((a1.length):Int) 64))) 64)) fun v5=>
 Ya (Zmc v4 v5) fun v6=>
 Ya (Zrd k (Yb .u64 (8*(Yb .u64 ((a1.length):Int)))) 8) fun v7=>
 Ya (Zmc v6 v7) fun v8=>
 Ya (Zjc.l0 k k v8 [(Yc Zjm 0 0),(Yc Zjm 1 0),(Yc Zjm 2 0),(Yc Zjm 3 0),(Yc Zjm 4 0),(Yc Zjm 5 0),(Yc Zjm 6 0),(Yc Zjm 7 0)]) fun y9=>
 Ya (Zjc.l1 k k [] (Yc y9 0 0) (Yc y9 1 0) (Yc y9 2 0) (Yc y9 3 0) (Yc y9 4 0) (Yc y9 5 0) (Yc y9 6 0) (Yc y9 7 0) 0) fun y10=>
 some y10
def Zjc.con (k:Nat):Con:=Sig.con { ps:=[.val false .str (ros .str)],rs:=[.val false [.v .str]],ntmps:=44 } (fun x=>Zjc k x)
def Zjc.cok (k:Nat):=cX (cC (strings_Repeat.ok k) (cC (Zrd.ok k) (cC (Zob.ok k) cN)))
def Zjc.l0.s (k:Nat):Summ:=lp 44 { tmps:=[(3,.one (.own 1)),(5,.one (.v .str))],slots:=[(1,.arr false 2000008 (.int .u32))],nb:=2 } [(.exit 0,{ tmps:=[(3,.one (.own 2))],slots:=[(2,.arr false 2000008 (.int .u32))],nb:=3 })] (fun j x=>Zjc.l0 k j x.1 x.2) k
def Zjc.l0.ok (k:Nat):=(lA (Zjc.cok k):Zj Tryz.prog _ (.loop (cO (cO (cL (cR (cR (cR (cR (cB Tryz.f194))))))))) (Zjc.l0.s k))
def Zjc.l1.s (k:Nat):Summ:=lp 44 { tmps:=[(6,.one (.v .str)),(33,.agg [.v (.int .u32),.v (.int .u32),.v (.int .u32),.v (.int .u32),.v (.int .u32),.v (.int .u32),.v (.int .u32),.v (.int .u32)]),(34,.one (.v (.int .i64)))],slots:=[],nb:=3 } [(.exit 2,{ tmps:=[(6,.one (.v .str))],slots:=[],nb:=3 })] (fun j x=>Zjc.l1 k j x.1 x.2.1 x.2.2.1 x.2.2.2.1 x.2.2.2.2.1 x.2.2.2.2.2.1 x.2.2.2.2.2.2.1 x.2.2.2.2.2.2.2.1 x.2.2.2.2.2.2.2.2.1 x.2.2.2.2.2.2.2.2.2) k
def Zjc.l1.ok (k:Nat):=(lA (Zjc.cok k):Zj Tryz.prog _ (.loop (cO (cO (cR (cL (cR (cR (cR (cR (cR (cR (cB Tryz.f194)))))))))))) (Zjc.l1.s k))
theorem Zjc.ok (k:Nat):Zf Tryz.prog 194 (Zjc.con k):=fP (.two .auto (.two .auto (.two .auto (.two .auto (.two (.one (.sum (Zjc.l0.s k))) (.two .auto (.two (.two .auto (.one (.sum (Zjc.l1.s k)))) .auto))))))) (Zjc.cok k) Tryz.func194 (sC (Zjc.l0.ok k) (sC (Zjc.l1.ok k) sN))
def strings_Join (l:List Str) (s:Str):Option Str:=if l.length≤140737488355328∧(Lib.join l s).length≤140737488355328 then some (Lib.join l s) else none
def strings_Join.con (k:Nat):Con:={ ms:=[.val [.ro],.val [.ro]],f:=fun xs=>match xs with
 | [.val false [.leaf (.bor .str l)],.val false [.leaf (.str s)]]=>.opt Str (strings_Join l s) fun r=>⟨[.val false [.leaf (.str r)]],[]⟩
 | _=>.fail }
theorem strings_Join.ok (k:Nat):Zf Tryz.prog 195 (strings_Join.con k):=by
 refine ⟨(Zm1 Tryz.func195 (by kernel_rfl) (show Tryz.f195.body=some (cB Tryz.f195) by kernel_rfl)),?_⟩
 intro xs rr hrr w vs F L M hF hnd hgl hargs
 unfold strings_Join.con at hrr
 dsimp only at hrr
 split at hrr
 ·rename_i l s
  replace hrr:(strings_Join l s).map (fun r=>(⟨[.val false [.leaf (.str r)]],[]⟩:RR))=some rr:=hrr
  unfold strings_Join at hrr
  split at hrr
  ·rename_i hc
   obtain ⟨hc1,hc2⟩:=hc
   cases hrr
   match vs,hargs with
   | [v1,v2],⟨_,_,_,_,hL,hM,⟨rfl,hv1,hn1⟩,_,_,_,_,hL2,hM2,⟨rfl,hv2,hn2⟩,hn3,hn4⟩=>
   have hv2:v2 = .string (ba s):=hv2
   subst hv2
   subst hn1
   subst hn2
   subst hn3
   subst hn4
   subst hL2
   subst hM2
   subst hL
   subst hM
   obtain ⟨A,c,hv,hlc,hrow⟩:=hv1
   cases hv
   have fin:∀w',Below w.heap.size w w'→∃v,Ending.returned (.string (ba (Lib.join l s))) = .returned v∧Zkt ⟨[.val false [.leaf (.str (Lib.join l s))]],[]⟩ F [] [] w v w':=fun w' bel=>
    ⟨_,rfl,⟨bel.os,bel.tape,bel.output,bel.size,fun b hb _=>bel.block b hb⟩,[],[],(fun c hc=>nomatch hc),Yj,rfl,rfl,rfl⟩
   rcases hrow with rfl | ⟨g,o,rfl,hB,hcells⟩
   ·refine (Tryz.strings_Join_none A c (ba s) w).mono ?_
    rintro e w' ⟨rfl,rfl⟩
    exact fin _ (Below.refl _ _)
   ·have hx:((l.map ba).map (·.data.toList))=l:=by rw [List.map_map];exact List.map_id' l
    have hcall:=Tryz.strings_Join g o c (l.map ba) (ba s) w (fun j x hj=>by
     rw [List.getElem?_map] at hj
     obtain ⟨y,hy,rfl⟩:=Option.map_eq_some_iff.1 hj
     obtain ⟨cs,h1,h2⟩:=hcells j y hy
     have h2:cs=[.string (ba y)]:=h2
     subst h2
     have:=h1 0 _ rfl
     simpa [Ty.sz] using this) hB.1 (by rw [Yi];exact hc1) (by rw [Yi];exact hlc) (by rw [hx];exact hc2)
    rw [hx,Yi] at hcall
    refine hcall.mono ?_
    rintro e w' ⟨rfl,bel⟩
    exact fin w' bel
  ·cases hrr
 ·cases hrr
def Zfo (k:Nat) (a1:List Str):Option (Str):=
 Ya (strings_Join a1 []) fun v2=>
 Ya (Zjc k v2) fun v3=>
 some v3
def Zfo.con (k:Nat):Con:=Sig.con { ps:=[.val false (.sl .str) (ros (.sl .str))],rs:=[.val false [.v .str]],ntmps:=6 } (fun x=>Zfo k x)
theorem Zfo.ok (k:Nat):Zf Tryz.prog 145 (Zfo.con k):=fA (cX (cC (Zjc.ok k) (cC (strings_Join.ok k) cN))) Tryz.func145
def slices_Clone_string (a:List Str):Option (List Str):=Ya (Zu 16 [] a) fun y=>some y
def slices_Clone_string.sig:Sig:={ ps:=[.val false (.sl .str) (ros (.sl .str))],rs:=[.val false [.own 9 .str]],ntmps:=8 }
def slices_Clone_string.con (k:Nat):Con:=slices_Clone_string.sig.con (fun x=>slices_Clone_string x)
theorem slices_Clone_string.ok (k:Nat):Zf Tryz.prog 196 (slices_Clone_string.con k):=
 Z60 (e:=9) (C:={ ti:=TAB,con:=Zol [] }) (s:=slices_Clone_string.sig) (G:=fun x=>slices_Clone_string x) (Zau Zut trivial) Tryz.func196 (by kernel_rfl) rfl (by kernel_rfl) (by kernel_rfl) (by kernel_rfl) rfl rfl rfl rfl rfl rfl (by kernel_rfl) (by kernel_rfl)
  (fun x=>⟨_,_,.inl rfl⟩) (fun x y h=>Eq.trans (b:=slices_Clone_string x) (by kernel_rfl) h) (fun x y h hl=>by
   have e:x=([]:List Str):=hl .str x (.inl (by kernel_rfl))
   subst e
   exact Eq.trans (b:=slices_Clone_string []) (by kernel_rfl) h)
def Zif.l0:Nat→Str→Int→Int→List Int→Option ((List Int))
 | 0,_,_,_,_=>none
 | j+1,a1,a2,a3,a4=>
  bif decide (a3<a2) then
   Ya (at? a4 a3) fun v5=>
   Ya (at? a4 a3) fun v6=>
   Ya (at? a1 a3) fun v7=>
   Ya (at? a4 a3) fun v8=>
   Ya (at? a4 a3) fun v9=>
   Zif.l0 j a1 a2 (Yb .i64 (a3+1)) (Ye a4 (Yd a3) (intBits .xor .u8 v6 (v7.toNat:Int)))
  else
  some a4
def Zif (k:Nat) (a1:Str) (a2:Str):Option (Str):=
 Ya (Zmv (a1.length) 1) fun v3=>
 Ya (Zif.l0 k a2 (((Zdb a1).length):Int) 0 (Zdb a1)) fun y4=>
 some (Zlb y4)
def Zif.con (k:Nat):Con:=Sig.con { ps:=[.val false .str (ros .str),.val false .str (ros .str)],rs:=[.val false [.v .str]],ntmps:=26 } (fun x=>Zif k x.1 x.2)
def Zif.cok (k:Nat):=cX cN
def Zif.l0.s (k:Nat):Summ:=lp 26 { tmps:=[(1,.one (.v .str)),(5,.one (.own 1)),(10,.one (.v (.int .i64))),(11,.one (.v (.int .i64)))],slots:=[(1,.arr true 5 (.int .u8))],nb:=2 } [(.exit 0,{ tmps:=[(5,.one (.own 2))],slots:=[(2,.arr true 5 (.int .u8))],nb:=3 })] (fun j x=>Zif.l0 j x.1 x.2.1 x.2.2.1 x.2.2.2) k
def Zif.l0.ok (k:Nat):=(lA (Zif.cok k):Zj Tryz.prog _ (.loop (cO (cO (cR (cL (cR (cR (cB Tryz.f226)))))))) (Zif.l0.s k))
theorem Zif.ok (k:Nat):Zf Tryz.prog 226 (Zif.con k):=fP (.two .auto (.two .auto (.two (.two .auto (.one (.sum (Zif.l0.s k)))) .auto))) (Zif.cok k) Tryz.func226 (sC (Zif.l0.ok k) sN)
def Zxl (k:Nat) (a1:G29) (a2:Str):Option (Str):=
 bif a1.1==1 then
  some ([0,0,0,0,0,0,0,0]:Str)
 else
 bif a1.1==2 then
  some a1.2.2.2
 else
 bif a1.1==3 then
  some a2
 else
 Ya (Zif k a2 a1.2.2.2) fun v3=>
 some v3
def Zxl.con (k:Nat):Con:=Sig.con { ps:=[.val true T29 (ros T29),.val false .str (ros .str)],rs:=[.val false [.v .str]],ntmps:=20 } (fun x=>Zxl k x.1 x.2)
theorem Zxl.ok (k:Nat):Zf Tryz.prog 197 (Zxl.con k):=fA (cX (cC (Zif.ok k) cN)) Tryz.func197
def Zme.l0 (k:Nat):Nat→List Str→List G29→Int→Int→List Str→Option ((List Str))
 | 0,_,_,_,_,_=>none
 | j+1,a1,a2,a3,a4,a5=>
  bif decide (a4<a3) then
   Ya (at? a2 a4) fun v6=>
   Ya (at? a1 v6.2.2.1) fun v7=>
   Ya (Zxl k v6 v7) fun v8=>
   let e9:=at? a5 v6.2.1
   Ya (e9) fun v10=>
   Ya (e9) fun v11=>
   Zme.l0 k j a1 a2 a3 (Yb .i64 (a4+1)) (Ye a5 (Yd v6.2.1) v8)
  else
  some a5
def Zme (k:Nat) (a1:List Str) (a2:List G29):Option (List Str):=
 Ya (slices_Clone_string a1) fun v3=>
 Ya (Zyi k a2) fun v4=>
 Ya (Zme.l0 k k a1 v4 ((v4.length):Int) 0 v3) fun y5=>
 some y5
def Zme.con (k:Nat):Con:=Sig.con { ps:=[.val false (.sl .str) (ros (.sl .str)),.val false (.sl T29) (ros (.sl T29))],rs:=[.val false [.own 9 .str]],ntmps:=30 } (fun x=>Zme k x.1 x.2)
def Zme.cok (k:Nat):=cX (cC (Zyi.ok k) (cC (slices_Clone_string.ok k) (cC (Zxl.ok k) cN)))
def Zme.l0.s (k:Nat):Summ:=lp 30 { tmps:=[(0,.one (.bor .str)),(5,.one (.own 1)),(11,.one (.v (.sl T29))),(12,.one (.v (.int .i64))),(13,.one (.v (.int .i64)))],slots:=[(1,.arr false 9 .str)],nb:=2 } [(.exit 0,{ tmps:=[(5,.one (.own 2))],slots:=[(2,.arr false 9 .str)],nb:=3 })] (fun j x=>Zme.l0 k j x.1 x.2.1 x.2.2.1 x.2.2.2.1 x.2.2.2.2) k
def Zme.l0.ok (k:Nat):=(lA (Zme.cok k):Zj Tryz.prog _ (.loop (cO (cO (cR (cL (cR (cR (cB Tryz.f146)))))))) (Zme.l0.s k))
theorem Zme.ok (k:Nat):Zf Tryz.prog 146 (Zme.con k):=fP (.two .auto (.two .auto (.two (.two .auto (.one (.sum (Zme.l0.s k)))) .auto))) (Zme.cok k) Tryz.func146 (sC (Zme.l0.ok k) sN)
def Z8n (k:Nat) (a1:G27) (a2:G59) (a3:List G29):Option (List G89×Str×List Int×Int):=
 Ya (Zxi a2) fun v4=>
 Ya (Z8d k a1 v4) fun v5=>
 Ya (Zqd k a1) fun v6=>
 bif a2.1 != 2 then
  some ([],[],[],10)
 else
 Ya (Z9j a3) fun v7=>
 bif v7 != a2.2.2.1 then
  some (v5,[],[],4)
 else
 Ya (Z9c k a3 a1.1) fun v8=>
 bif v8 != 0 then
  some (v5,[],[],5)
 else
 Ya (Zme k v6 a3) fun v9=>
 Ya (Zfo k v9) fun v10=>
 bif !(v10==a2.2.2.2.2.2.1) then
  some (v5,[],[],5)
 else
 Ya (Zkb k a3) fun v11=>
 Ya (Zae k v11) fun v12=>
 bif decide (a2.2.2.2.1<v12) then
  some (v5,[],[],11)
 else
 Ya (Z8d k a1 (3,a2.2)) fun v13=>
 Ya (Zu 32 ([(true,(0,[]))]) v13) fun v14=>
 some (v14,[],[],0)
def Z8n.con (k:Nat):Con:=Sig.con { ps:=[.val true T27 (ros T27),.val true T59 (ros T59),.val false (.sl T29) (ros (.sl T29))],rs:=[.val true [.own 89 T89,.v .str,.own 2 (.int .i64),.v (.int .i64)]],ntmps:=62 } (fun x=>Z8n k x.1 x.2.1 x.2.2)
theorem Z8n.ok (k:Nat):Zf Tryz.prog 71 (Z8n.con k):=fA (cX (cC (Zqd.ok k) (cC (Z9c.ok k) (cC (Zkb.ok k) (cC (Zae.ok k) (cC (Z8d.ok k) (cC (Zxi.ok k) (cC (Z9j.ok k) (cC (Zfo.ok k) (cC (Zme.ok k) cN)))))))))) Tryz.func71
def Zld.l0:Nat→Int→List Z7c→Int→Int→Option (Unit ⊕ Int)
 | 0,_,_,_,_=>none
 | j+1,a1,a2,a3,a4=>
  bif decide (a4<a3) then
   Ya (at? a2 a4) fun v5=>
   bif (v5.1==1)&&(v5.2.2.1==a1) then
    some (.inr (v5.2.2.2))
   else
   Zld.l0 j a1 a2 a3 (Yb .i64 (a4+1))
  else
  some (.inl ())
def Zld (k:Nat) (a1:List Z7c) (a2:Int) (a3:Int):Option (Int):=
 Ya (Z8b a1 0 a2) fun v4=>
 Ya (Zld.l0 k a3 v4 ((v4.length):Int) 0) fun
  | .inl y5=>
   some (-1)
  | .inr y6=>
   some y6
def Zld.con (k:Nat):Con:=Sig.con { ps:=[.val false (.sl Z2b) (ros (.sl Z2b)),.val false (.int .i64) (ros (.int .i64)),.val false (.int .i64) (ros (.int .i64))],rs:=[.val false [.v (.int .i64)]],ntmps:=29 } (fun x=>Zld k x.1 x.2.1 x.2.2)
def Zld.cok (k:Nat):=cX cN
def Zld.l0.s (k:Nat):Summ:=lp 29 { tmps:=[(2,.one (.v (.int .i64))),(11,.one (.bor Z2b)),(12,.one (.v (.int .i64))),(13,.one (.v (.int .i64)))],slots:=[],nb:=0 } [(.exit 0,{ tmps:=[],slots:=[],nb:=0 }),(.ret,{ tmps:=[(6,.one (.v (.int .i64)))],slots:=[],nb:=0 })] (fun j x=>Zld.l0 j x.1 x.2.1 x.2.2.1 x.2.2.2) k
def Zld.l0.ok (k:Nat):=(lA (Zld.cok k):Zj Tryz.prog _ (.loop (cO (cO (cR (cL (cR (cB Tryz.f201))))))) (Zld.l0.s k))
theorem Zld.ok (k:Nat):Zf Tryz.prog 201 (Zld.con k):=fP (.two .auto (.two (.two .auto (.one (.sum (Zld.l0.s k)))) .auto)) (Zld.cok k) Tryz.func201 (sC (Zld.l0.ok k) sN)
def Zzf.j0 (k:Nat) (a1:List Z7c) (a2:Int) (a3:List Str) (a4:List Zjb) (a5:Int) (a6:Int) (a7:Int) (a8:Int) (a9:Int) (a10:Str) (a11:List Int) (a12:List Int) (a13:Str) (a14:Int) (a15:Int) (a16:Int) (a17:Str):Option ((Str×Int×Int×Int×Str)):=
 bif (a14==3)||(a14==4) then
  Ya (Zyf k (a3,a4) (Yb .i64 (3+a16))) fun v18=>
  Ya (Zld k a1 a9 a16) fun v19=>
  bif decide (0≤v19) then
   Ya (at? a12 v19) fun v20=>
   Ya (Zui k (a2,(a3,a4)) v20) fun v21=>
   some (v21,a14,a15,a16,a17)
  else
  some (v18,a14,a15,a16,a17)
 else
 some (a13,a14,a15,a16,a17)
def Zzf (k:Nat) (a1:G27) (a2:G59) (a3:List Z7c) (a4:G29):Option (Str):=
 Ya (Zzf.j0 k a3 a1.1 a1.2.1 a1.2.2 a2.1 a2.2.1 a2.2.2.1 a2.2.2.2.1 a2.2.2.2.2.1 a2.2.2.2.2.2.1 a2.2.2.2.2.2.2.1 a2.2.2.2.2.2.2.2 [] a4.1 a4.2.1 a4.2.2.1 a4.2.2.2) fun y5=>
 bif (y5.2.1==4)&&(((y5.1.length):Int) != 8) then
  some ([])
 else
 Ya (Zxl k y5.2 y5.1) fun v6=>
 some v6
def Zzf.con (k:Nat):Con:=Sig.con { ps:=[.val true T27 (ros T27),.val true T59 (ros T59),.val false (.sl Z2b) (ros (.sl Z2b)),.val true T29 (ros T29)],rs:=[.val false [.v .str]],ntmps:=51 } (fun x=>Zzf k x.1 x.2.1 x.2.2.1 x.2.2.2)
def Zzf.cok (k:Nat):=cXr true false (cC (Zyf.ok k) (cC (Zui.ok k) (cC (Zxl.ok k) (cC (Zld.ok k) cN))))
def Zzf.j0.s (k:Nat):Summ:=lq 51 { tmps:=[(2,.one (.bor Z2b)),(4,.eptr [.v (.int .i64),.bor .str,.bor Z2]),(5,.eptr [.v (.int .i64),.v (.int .i64),.v (.int .i64),.v (.int .i64),.v (.int .i64),.v .str,.bor (.int .i64),.bor (.int .i64)]),(7,.one (.ptr 0 0)),(9,.one (.v .str))],slots:=[(0,.box 45 [.v (.int .i64),.v (.int .i64),.v (.int .i64),.v .str])],nb:=1 } [(.nrm,{ tmps:=[(9,.one (.v .str))],slots:=[(0,.box 45 [.v (.int .i64),.v (.int .i64),.v (.int .i64),.v .str])],nb:=1 })] (fun x=>Zzf.j0 k x.1 x.2.1 x.2.2.1 x.2.2.2.1 x.2.2.2.2.1 x.2.2.2.2.2.1 x.2.2.2.2.2.2.1 x.2.2.2.2.2.2.2.1 x.2.2.2.2.2.2.2.2.1 x.2.2.2.2.2.2.2.2.2.1 x.2.2.2.2.2.2.2.2.2.2.1 x.2.2.2.2.2.2.2.2.2.2.2.1 x.2.2.2.2.2.2.2.2.2.2.2.2.1 x.2.2.2.2.2.2.2.2.2.2.2.2.2.1 x.2.2.2.2.2.2.2.2.2.2.2.2.2.2.1 x.2.2.2.2.2.2.2.2.2.2.2.2.2.2.2.1 x.2.2.2.2.2.2.2.2.2.2.2.2.2.2.2.2)
def Zzf.j0.ok (k:Nat):=(jA (Zzf.cok k):Zj Tryz.prog _ (cL (cR (cR (cB Tryz.f150)))) (Zzf.j0.s k))
theorem Zzf.ok (k:Nat):Zf Tryz.prog 150 (Zzf.con k):=fP (.two .auto (.two .auto (.two (.sum (Zzf.j0.s k)) .auto))) (Zzf.cok k) Tryz.func150 (sC (Zzf.j0.ok k) sN)
def Zmo (k:Nat) (a1:Int) (a2:Int) (a3:Str):Option (Str):=
 Ya (Zsd k [a1,a2]) fun v4=>
 Ya (Zvi k a3) fun v5=>
 Ya (Zmc v4 v5) fun v6=>
 Ya (Zwi k v6) fun v7=>
 some v7
def Zmo.con (k:Nat):Con:=Sig.con { ps:=[.val false (.int .i64) (ros (.int .i64)),.val false (.int .i64) (ros (.int .i64)),.val false .str (ros .str)],rs:=[.val false [.v .str]],ntmps:=15 } (fun x=>Zmo k x.1 x.2.1 x.2.2)
theorem Zmo.ok (k:Nat):Zf Tryz.prog 151 (Zmo.con k):=fA (cX (cC (Zwi.ok k) (cC (Zsd.ok k) (cC (Zvi.ok k) cN)))) Tryz.func151
def Zsc.j0 (k:Nat) (a1:List G29) (a2:Int) (a3:Int) (a4:List Str) (a5:List Zjb) (a6:Int) (a7:Int) (a8:Int) (a9:Int) (a10:Int) (a11:Str) (a12:List Int) (a13:List Int) (a14:Int) (a15:Int) (a16:Int) (a17:Int) (a18:List Z7c):Option ((Int×Str×Int×List Str×List Zjb×Int×Int×Int×Int×Int×Str×List Int×List Int×Int×Int×Int×Int)):=
 let e19:=(a3,(a4,a5))
 bif a14==1 then
  Ya (at? a13 a17) fun v20=>
  Ya (Z9g e19 v20) fun v21=>
  Ya (Zyf k (a4,a5) a2) fun v22=>
  some (v21,v22,a3,a4,a5,a6,a7,a8,a9,a10,a11,a12,a13,a14,a15,a16,a17)
 else
 Ya (Zyi k a1) fun v23=>
 Ya (at? v23 a15) fun v24=>
 Ya (Zzf k e19 (a6,(a7,(a8,(a9,(a10,(a11,(a12,a13))))))) a18 v24) fun v25=>
 some (a2,v25,a3,a4,a5,a6,a7,a8,a9,a10,a11,a12,a13,a14,a15,a16,a17)
def Zsc.j1 (k:Nat) (a1:Int) (a2:Str) (a3:Str) (a4:Int) (a5:Int) (a6:Int) (a7:Int) (a8:Int) (a9:Str) (a10:List Int) (a11:List Int):Option ((Str×Int×Int×Int×Int×Int×Str×List Int×List Int)):=
 bif ((a2.length):Int)==8 then
  Ya (Zmo k a8 a1 a2) fun v12=>
  some (v12,a4,a5,a6,a7,a8,a9,a10,a11)
 else
 some (a3,a4,a5,a6,a7,a8,a9,a10,a11)
def Zsc (k:Nat) (a1:G27) (a2:G59) (a3:List G29):Option (List G89×Str×List Int×Int):=
 bif a2.1 != 5 then
  some ([],[],[],10)
 else
 Ya (Zkb k a3) fun v4=>
 Ya (Zvk v4) fun v5=>
 let e6:=Yb .i64 (v5-a2.2.2.2.2.1)
 bif e6==0 then
  Ya (Zxi a2) fun v7=>
  Ya (Z8d k a1 v7) fun v8=>
  some (v8,[],[0],0)
 else
 let e9:=at? v4 a2.2.2.2.2.1
 Ya (e9) fun v10=>
 Ya (e9) fun v11=>
 Ya (Zsc.j0 k a3 (Yb .i64 (3+v11.2.2.1)) a1.1 a1.2.1 a1.2.2 a2.1 a2.2.1 a2.2.2.1 a2.2.2.2.1 a2.2.2.2.2.1 a2.2.2.2.2.2.1 a2.2.2.2.2.2.2.1 a2.2.2.2.2.2.2.2 v11.1 v11.2.1 v11.2.2.1 v11.2.2.2 v4) fun y12=>
 Ya (Zsc.j1 k y12.1 y12.2.1 [] y12.2.2.2.2.2.1 y12.2.2.2.2.2.2.1 y12.2.2.2.2.2.2.2.1 y12.2.2.2.2.2.2.2.2.1 y12.2.2.2.2.2.2.2.2.2.1 y12.2.2.2.2.2.2.2.2.2.2.1 y12.2.2.2.2.2.2.2.2.2.2.2.1 y12.2.2.2.2.2.2.2.2.2.2.2.2.1) fun y13=>
 Ya (Z8d k (y12.2.2.1,(y12.2.2.2.1,y12.2.2.2.2.1)) (y13.2.1,(y13.2.2.1,(y13.2.2.2.1,(y13.2.2.2.2.1,((Yb .i64 (y13.2.2.2.2.2.1+1)),y13.2.2.2.2.2.2)))))) fun v14=>
 let e15:=(true,(0,[]))
 Ya (Zu 32 [(false,(2,y13.1)),e15,(false,(y12.1,y12.2.1)),e15] v14) fun v16=>
 some (v16,[],[(Yb .i64 (e6-1))],0)
def Zsc.con (k:Nat):Con:=Sig.conR { ps:=[.val true T27 (Zwg T27),.val true T59 (Zwg T59),.val false (.sl T29) (ros (.sl T29))],rs:=[.val true [.own 89 T89,.v .str,.own 2 (.int .i64),.v (.int .i64)]],ntmps:=95 } (fun x=>Zsc k x.1 x.2.1 x.2.2)
def Zsc.cok (k:Nat):=cX (cC (Zkb.ok k) (cC (Zvk.ok k) (cC (Z8d.ok k) (cC (Zxi.ok k) (cC (Zyf.ok k) (cC (Zyi.ok k) (cC (Z9g.ok k) (cC (Zzf.ok k) (cC (Zmo.ok k) cN)))))))))
def Zsc.j0.s (k:Nat):Summ:=lq 95 { tmps:=[(2,.one (.bor T29)),(3,.one (.ptr 0 0)),(4,.one (.ptr 1 0)),(7,.one (.own 5)),(9,.one (.ptr 4 0)),(10,.one (.v (.int .i64)))],slots:=[(0,.box 43 [.v (.int .i64),.v (.sl .str),.v (.sl Z2)]),(1,.box 59 [.v (.int .i64),.v (.int .i64),.v (.int .i64),.v (.int .i64),.v (.int .i64),.v .str,.v (.sl (.int .i64)),.v (.sl (.int .i64))]),(4,.box 107 [.v (.int .i64),.v (.int .i64),.v (.int .i64),.v (.int .i64)]),(5,.arr false 107 Z2b)],nb:=6 } [(.nrm,{ tmps:=[(10,.one (.v (.int .i64))),(11,.one (.v .str))],slots:=[(0,.box 43 [.v (.int .i64),.v (.sl .str),.v (.sl Z2)]),(1,.box 59 [.v (.int .i64),.v (.int .i64),.v (.int .i64),.v (.int .i64),.v (.int .i64),.v .str,.v (.sl (.int .i64)),.v (.sl (.int .i64))]),(4,.box 107 [.v (.int .i64),.v (.int .i64),.v (.int .i64),.v (.int .i64)])],nb:=6 })] (fun x=>Zsc.j0 k x.1 x.2.1 x.2.2.1 x.2.2.2.1 x.2.2.2.2.1 x.2.2.2.2.2.1 x.2.2.2.2.2.2.1 x.2.2.2.2.2.2.2.1 x.2.2.2.2.2.2.2.2.1 x.2.2.2.2.2.2.2.2.2.1 x.2.2.2.2.2.2.2.2.2.2.1 x.2.2.2.2.2.2.2.2.2.2.2.1 x.2.2.2.2.2.2.2.2.2.2.2.2.1 x.2.2.2.2.2.2.2.2.2.2.2.2.2.1 x.2.2.2.2.2.2.2.2.2.2.2.2.2.2.1 x.2.2.2.2.2.2.2.2.2.2.2.2.2.2.2.1 x.2.2.2.2.2.2.2.2.2.2.2.2.2.2.2.2.1 x.2.2.2.2.2.2.2.2.2.2.2.2.2.2.2.2.2)
def Zsc.j0.ok (k:Nat):=(jA (Zsc.cok k):Zj Tryz.prog _ (cL (cR (cR (cR (cR (cR (cR (cR (cB Tryz.f74))))))))) (Zsc.j0.s k))
def Zsc.j1.s (k:Nat):Summ:=lq 95 { tmps:=[(4,.one (.ptr 1 0)),(10,.one (.v (.int .i64))),(11,.one (.v .str)),(12,.one (.v .str))],slots:=[(1,.box 59 [.v (.int .i64),.v (.int .i64),.v (.int .i64),.v (.int .i64),.v (.int .i64),.v .str,.v (.sl (.int .i64)),.v (.sl (.int .i64))])],nb:=6 } [(.nrm,{ tmps:=[(12,.one (.v .str))],slots:=[(1,.box 59 [.v (.int .i64),.v (.int .i64),.v (.int .i64),.v (.int .i64),.v (.int .i64),.v .str,.v (.sl (.int .i64)),.v (.sl (.int .i64))])],nb:=6 })] (fun x=>Zsc.j1 k x.1 x.2.1 x.2.2.1 x.2.2.2.1 x.2.2.2.2.1 x.2.2.2.2.2.1 x.2.2.2.2.2.2.1 x.2.2.2.2.2.2.2.1 x.2.2.2.2.2.2.2.2.1 x.2.2.2.2.2.2.2.2.2.1 x.2.2.2.2.2.2.2.2.2.2)
def Zsc.j1.ok (k:Nat):=(jA (Zsc.cok k):Zj Tryz.prog _ (cL (cR (cR (cR (cR (cR (cR (cR (cR (cR (cB Tryz.f74))))))))))) (Zsc.j1.s k))
theorem Zsc.ok (k:Nat):Zf Tryz.prog 74 (Zsc.con k):=Zi7 (fP (.two .auto (.two .auto (.two .auto (.two .auto (.two .auto (.two .auto (.two .auto (.two (.sum (Zsc.j0.s k)) (.two .auto (.two (.sum (Zsc.j1.s k)) .auto)))))))))) (Zsc.cok k) Tryz.func74 (sC (Zsc.j0.ok k) (sC (Zsc.j1.ok k) sN)))
def Zbo (a1:Z7c) (a2:Int):Option (Bool):=
 some ((a1.1==2)&&(a1.2.2.1==a2))
def Zbo.con (k:Nat):Con:=Sig.con { ps:=[.val true Z2b (ros Z2b),.rptr (.int .i64)],rs:=[.val false [.v .bool]],ntmps:=13 } (fun x=>Zbo x.1 x.2)
theorem Zbo.ok (k:Nat):Zf Tryz.prog 154 (Zbo.con k):=fA (cX cN) Tryz.func154
def Zud.l0:Nat→List Z7c→Int→Int→Int→Option (Int ⊕ (Int×Int))
 | 0,_,_,_,_=>none
 | j+1,a1,a2,a3,a4=>
  bif decide (a3<a2) then
   Ya (at? a1 a3) fun v5=>
   Ya (Zbo v5 a4) fun v6=>
   bif v6 then
    some (.inr (a3,a4))
   else
   Zud.l0 j a1 a2 (Yb .i64 (a3+1)) a4
  else
  some (.inl a4)
def Zud (k:Nat) (a1:List Z7c) (a2:Int):Option (Int×Int):=
 Ya (Zud.l0 k a1 ((a1.length):Int) 0 a2) fun
  | .inl y3=>
   some ((-1),y3)
  | .inr y4=>
   some (y4.1,y4.2)
def Zud.con (k:Nat):Con:=Sig.con { ps:=[.val false (.sl Z2b) (ros (.sl Z2b)),.fn 154 [(2,(.int .i64),(Zwg (.int .i64)))]],rs:=[.val false [.v (.int .i64)]],ntmps:=19 } (fun x=>Zud k x.1 x.2)
def Zud.cok (k:Nat):=cX (cC (Zbo.ok k) cN)
def Zud.l0.s (k:Nat):Summ:=lp 19 { tmps:=[(0,.one (.bor Z2b)),(1,.fn 154 [.ptr 0 0]),(7,.one (.v (.int .i64))),(8,.one (.v (.int .i64)))],slots:=[(0,.box 2 [.v (.int .i64)])],nb:=1 } [(.exit 0,{ tmps:=[],slots:=[(0,.box 2 [.v (.int .i64)])],nb:=1 }),(.ret,{ tmps:=[(4,.one (.v (.int .i64)))],slots:=[(0,.box 2 [.v (.int .i64)])],nb:=1 })] (fun j x=>Zud.l0 j x.1 x.2.1 x.2.2.1 x.2.2.2) k
def Zud.l0.ok (k:Nat):=(lA (Zud.cok k):Zj Tryz.prog _ (.loop (cO (cO (cR (cL (cR (cB Tryz.f202))))))) (Zud.l0.s k))
theorem Zud.ok (k:Nat):Zf Tryz.prog 202 (Zud.con k):=fP (.two .auto (.two (.two .auto (.one (.sum (Zud.l0.s k)))) .auto)) (Zud.cok k) Tryz.func202 (sC (Zud.l0.ok k) sN)
def Zjp (k:Nat) (a1:List Z7c) (a2:Int):Option (Bool×Int):=
 Ya (Zud k a1 a2) fun v3=>
 some (decide (0≤v3.1),v3.2)
def Zjp.con (k:Nat):Con:=Sig.con { ps:=[.val false (.sl Z2b) (ros (.sl Z2b)),.fn 154 [(2,(.int .i64),(Zwg (.int .i64)))]],rs:=[.val false [.v .bool]],ntmps:=9 } (fun x=>Zjp k x.1 x.2)
theorem Zjp.ok (k:Nat):Zf Tryz.prog 153 (Zjp.con k):=fA (cX (cC (Zud.ok k) cN)) Tryz.func153
def Zao (k:Nat) (a1:Int) (a2:List Z7c) (a3:G59):Option (Bool):=
 Ya (Z8b a2 0 a3.2.2.2.2.1) fun v4=>
 Ya (Zjp k v4 a1) fun v5=>
 some v5.1
def Zao.con (k:Nat):Con:=Sig.con { ps:=[.val false (.int .i64) (ros (.int .i64)),.rptr (.sl Z2b),.rptr T59],rs:=[.val false [.v .bool]],ntmps:=11 } (fun x=>Zao k x.1 x.2.1 x.2.2)
theorem Zao.ok (k:Nat):Zf Tryz.prog 152 (Zao.con k):=fA (cX (cC (Zjp.ok k) cN)) Tryz.func152
def Zke.l0 (k:Nat):Nat→Int→List Str→List Zjb→List G29→Int→Int→Int→Int→Int→Int→Int→Str→List Str→List Int→List Int→List Z7c→Option ((Int×Int×Int×Int×Int×Str×List Str×List Int×List Int×List Z7c))
 | 0,_,_,_,_,_,_,_,_,_,_,_,_,_,_,_,_=>none
 | j+1,a1,a2,a3,a4,a5,a6,a7,a8,a9,a10,a11,a12,a13,a14,a15,a16=>
  bif decide (a6<a5) then
   Ya (at? a4 a6) fun v17=>
   let e18:=(a7,(a8,(a9,(a10,(a11,(a12,(a14,a15)))))))
   Ya (Zao k v17.2.1 a16 e18) fun v19=>
   let e20:=Yb .i64 (a6+1)
   bif !v19 then
    Ya (Zzf k (a1,(a2,a3)) e18 a16 v17) fun v21=>
    let e22:=at? a13 v17.2.1
    Ya (e22) fun v23=>
    Ya (e22) fun v24=>
    Zke.l0 k j a1 a2 a3 a4 a5 e20 a7 a8 a9 a10 a11 a12 (Ye a13 (Yd v17.2.1) v21) a14 a15 a16
   else
   Zke.l0 k j a1 a2 a3 a4 a5 e20 a7 a8 a9 a10 a11 a12 a13 a14 a15 a16
  else
  some (a7,a8,a9,a10,a11,a12,a13,a14,a15,a16)
def Zke (k:Nat) (a1:G27):Option (List Str):=
 Ya (Zah k a1) fun v2=>
 Ya (Zqd k a1) fun v3=>
 Ya (Z4c k a1 (v2.1,(v2.2.1,(v2.2.2.1,(v2.2.2.2.1,(v2.2.2.2.2.1,(v2.2.2.2.2.2.1,(v2.2.2.2.2.2.2.1,v2.2.2.2.2.2.2.2.1)))))))) fun v4=>
 bif v2.1==4 then
  Ya (Zme k v3 v4) fun v5=>
  some v5
 else
 bif v2.1==5 then
  Ya (Zkb k v4) fun v6=>
  Ya (Zyi k v4) fun v7=>
  Ya (Zke.l0 k k a1.1 a1.2.1 a1.2.2 v7 ((v7.length):Int) 0 v2.1 v2.2.1 v2.2.2.1 v2.2.2.2.1 v2.2.2.2.2.1 v2.2.2.2.2.2.1 v3 v2.2.2.2.2.2.2.1 v2.2.2.2.2.2.2.2.1 v6) fun y8=>
  some y8.2.2.2.2.2.2.1
 else
 some v3
def Zke.con (k:Nat):Con:=Sig.con { ps:=[.val true T27 (ros T27)],rs:=[.val false [.own 9 .str]],ntmps:=56 } (fun x=>Zke k x)
def Zke.cok (k:Nat):=cXr true false (cC (Zah.ok k) (cC (Zqd.ok k) (cC (Z4c.ok k) (cC (Zkb.ok k) (cC (Zyi.ok k) (cC (Zme.ok k) (cC (Zzf.ok k) (cC (Zao.ok k) cN))))))))
def Zke.l0.s (k:Nat):Summ:=lp 56 { tmps:=[(1,.eptr [.v (.int .i64),.bor .str,.bor Z2]),(3,.one (.ptr 2 0)),(5,.one (.own 7)),(7,.one (.ptr 6 0)),(8,.fn 152 [.ptr 6 0,.ptr 2 0]),(34,.one (.v (.sl T29))),(35,.one (.v (.int .i64))),(36,.one (.v (.int .i64)))],slots:=[(2,.box 59 [.v (.int .i64),.v (.int .i64),.v (.int .i64),.v (.int .i64),.v (.int .i64),.v .str,.own 8,.own 9]),(6,.box 103 [.own 10]),(7,.arr false 9 .str),(8,.arr false 2 (.int .i64)),(9,.arr false 2 (.int .i64)),(10,.arr false 107 Z2b)],nb:=11 } [(.exit 1,{ tmps:=[(5,.one (.own 11))],slots:=[(2,.box 59 [.v (.int .i64),.v (.int .i64),.v (.int .i64),.v (.int .i64),.v (.int .i64),.v .str,.own 12,.own 13]),(6,.box 103 [.own 14]),(11,.arr false 9 .str),(12,.arr false 2 (.int .i64)),(13,.arr false 2 (.int .i64)),(14,.arr false 107 Z2b)],nb:=15 })] (fun j x=>Zke.l0 k j x.1 x.2.1 x.2.2.1 x.2.2.2.1 x.2.2.2.2.1 x.2.2.2.2.2.1 x.2.2.2.2.2.2.1 x.2.2.2.2.2.2.2.1 x.2.2.2.2.2.2.2.2.1 x.2.2.2.2.2.2.2.2.2.1 x.2.2.2.2.2.2.2.2.2.2.1 x.2.2.2.2.2.2.2.2.2.2.2.1 x.2.2.2.2.2.2.2.2.2.2.2.2.1 x.2.2.2.2.2.2.2.2.2.2.2.2.2.1 x.2.2.2.2.2.2.2.2.2.2.2.2.2.2.1 x.2.2.2.2.2.2.2.2.2.2.2.2.2.2.2) k
def Zke.l0.ok (k:Nat):=(lA (Zke.cok k):Zj Tryz.prog _ (.loop (cO (cO (cR (cR (cR (cL (cR (cR (cR (cO (cR (cL (cR (cR (cR (cB Tryz.f75))))))))))))))))) (Zke.l0.s k))
theorem Zke.ok (k:Nat):Zf Tryz.prog 75 (Zke.con k):=fP (.two .auto (.two .auto (.two .auto (.two (.two .auto (.one (.two .auto (.two .auto (.two .auto (.two (.two .auto (.two .auto (.two .auto (.one (.sum (Zke.l0.s k)))))) .auto)))))) .auto)))) (Zke.cok k) Tryz.func75 (sC (Zke.l0.ok k) sN)
end Go.Proofs.Qz
