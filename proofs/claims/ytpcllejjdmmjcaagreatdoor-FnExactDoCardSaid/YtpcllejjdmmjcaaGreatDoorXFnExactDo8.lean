/- What the law FnExactDo needs, part 9 of 15: the Lean functions of the Go functions that it reaches, with the proofs that the calls come to what they say, and plain facts about them. Conditions: those that each theorem states. Written by a session and by its programs (after the kit's printer). -/
import Derived.Test.YtpcllejjdmmjcaaGreatDoorXFnExactDo7
open Option renaming bind → Ya
open Go.IntKind renaming wrap → Yb, max → Ye
open Int renaming toNat → Yc, toNat_natCast → Yj
open List renaming set → Yd, mem_singleton → Yf, replicate → Yi, nodup_nil → Yk
open Nat renaming le_refl → Yg, mul_one → Yh
namespace Go.Proofs.Qz
open Go Go.RowKit
set_option linter.unusedVariables false
set_option linter.defProp false
def Zfc (k:Nat) (a1:Ziu):Option (Int×Str×Int×Bool):=
 Ya (Z4e k a1.1 a1.2.1) fun v2=>
 bif v2.2.2 != 0 then
  some (0,a1.1,a1.2.1,true)
 else
 some (v2.1,a1.1,v2.2.1,a1.2.2)
def Zfc.con (k:Nat):Con:=Sig.con { ps:=[.ref 234 Zkk (Z7g Zkk)],rs:=[.val false [.v (.int .i64)]],ntmps:=29 } (fun x=>Zfc k x)
theorem Zfc.ok (k:Nat):Zf Tryz.prog 215 (Zfc.con k):=fA (cX (cC (Z4e.ok k) cN)) Tryz.func215
def Z5o (k:Nat) (a1:Str) (a2:Int):Option (Str×Int×Int):=
 Ya (Z4e k a1 a2) fun v3=>
 bif v3.2.2 != 0 then
  some ([],0,v3.2.2)
 else
 Ya (Zhb v3.1 0 8000) fun v4=>
 bif !v4 then
  some ([],0,3)
 else
 bif decide ((Yb .i64 (((a1.length):Int)-v3.2.1))<v3.1) then
  some ([],0,4)
 else
 let e5:=Yb .i64 (v3.2.1+v3.1)
 Ya (Z9b a1 v3.2.1 e5) fun v6=>
 some (v6,e5,0)
def Z5o.con (k:Nat):Con:=Sig.con { ps:=[.val false .str (ros .str),.val false (.int .i64) (ros (.int .i64))],rs:=[.val false [.v .str],.val false [.v (.int .i64)],.val false [.v (.int .i64)]],ntmps:=41 } (fun x=>Z5o k x.1 x.2)
theorem Z5o.ok (k:Nat):Zf Tryz.prog 268 (Z5o.con k):=fA (cX (cC (Zhb.ok k) (cC (Z4e.ok k) cN))) Tryz.func268
def Ztg (k:Nat) (a1:Ziu):Option (Str×Str×Int×Bool):=
 Ya (Z5o k a1.1 a1.2.1) fun v2=>
 bif v2.2.2 != 0 then
  some ([],a1.1,a1.2.1,true)
 else
 some (v2.1,a1.1,v2.2.1,a1.2.2)
def Ztg.con (k:Nat):Con:=Sig.con { ps:=[.ref 234 Zkk (Z7g Zkk)],rs:=[.val false [.v .str]],ntmps:=29 } (fun x=>Ztg k x)
theorem Ztg.ok (k:Nat):Zf Tryz.prog 216 (Ztg.con k):=fA (cX (cC (Z5o.ok k) cN)) Tryz.func216
def Zdc.l0:Nat→Str→Int→Int→Int→Option (Int)
 | 0,_,_,_,_=>none
 | j+1,a1,a2,a3,a4=>
  bif decide (a4<8) then
   Ya (at? a1 a3) fun v5=>
   Ya (Zvb a4) fun v6=>
   Ya (Zvb 1) fun v7=>
   let e8:=Yb .i64 (a4+1)
   bif (intBits .and .u32 (intBits .xor .u32 a2 (shr .u32 (Yb .u32 (v5.toNat:Int)) a4)) 1)==1 then
    Zdc.l0 j a1 (intBits .xor .u32 (shr .u32 a2 1) 3988292384) a3 e8
   else
   Zdc.l0 j a1 (shr .u32 a2 1) a3 e8
  else
  some a2
def Zdc.l1 (k:Nat):Nat→Str→Int→Int→Int→Option (Int)
 | 0,_,_,_,_=>none
 | j+1,a1,a2,a3,a4=>
  bif decide (a4<a3) then
   Ya (Zdc.l0 k a1 a2 a4 0) fun y5=>
   Zdc.l1 k j a1 y5 a3 (Yb .i64 (a4+1))
  else
  some a2
def Zdc (k:Nat) (a1:Int) (a2:Str):Option (Int):=
 Ya (Zdc.l1 k k a2 (intBits .xor .u32 (Ye .u32) a1) ((a2.length):Int) 0) fun y3=>
 some (intBits .xor .u32 (Ye .u32) y3)
def Zdc.con (k:Nat):Con:=Sig.con { ps:=[.val false (.int .u32) (ros (.int .u32)),.val false .str (ros .str)],rs:=[.val false [.v (.int .u32)]],ntmps:=38 } (fun x=>Zdc k x.1 x.2)
def Zdc.cok (k:Nat):=cX cN
def Zdc.l0.s (k:Nat):Summ:=lp 38 { tmps:=[(1,.one (.v .str)),(5,.one (.v (.int .u32))),(6,.one (.v (.int .i64))),(16,.one (.v (.int .i64)))],slots:=[],nb:=0 } [(.exit 2,{ tmps:=[(5,.one (.v (.int .u32)))],slots:=[],nb:=0 })] (fun j x=>Zdc.l0 j x.1 x.2.1 x.2.2.1 x.2.2.2) k
def Zdc.l0.ok (k:Nat):=(lA (Zdc.cok k):Zj Tryz.prog _ (.loop (cO (cO (cR (cR (cO (cL (cR (cR (cO (cO (cR (cL (cR (cR (cB Tryz.f292)))))))))))))))) (Zdc.l0.s k))
def Zdc.l1.s (k:Nat):Summ:=lp 38 { tmps:=[(1,.one (.v .str)),(5,.one (.v (.int .u32))),(12,.one (.v (.int .i64))),(13,.one (.v (.int .i64)))],slots:=[],nb:=0 } [(.exit 0,{ tmps:=[(5,.one (.v (.int .u32)))],slots:=[],nb:=0 })] (fun j x=>Zdc.l1 k j x.1 x.2.1 x.2.2.1 x.2.2.2) k
def Zdc.l1.ok (k:Nat):=(lP (.two .auto (.two .auto (.two (.one (.two .auto (.two .auto (.one (.sum (Zdc.l0.s k)))))) .auto))) (Zdc.cok k) (sC (Zdc.l0.ok k) sN):Zj Tryz.prog _ (.loop (cO (cO (cR (cL (cR (cR (cB Tryz.f292)))))))) (Zdc.l1.s k))
theorem Zdc.ok (k:Nat):Zf Tryz.prog 292 (Zdc.con k):=fP (.two .auto (.two .auto (.two (.two .auto (.one (.sum (Zdc.l1.s k)))) .auto))) (Zdc.cok k) Tryz.func292 (sC (Zdc.l1.ok k) sN)
def Zaj (k:Nat) (a1:Str):Option (Str):=
 Ya (Zdc k 0 a1) fun v2=>
 Ya (Zvb 8) fun v3=>
 Ya (Zvb 16) fun v4=>
 Ya (Zvb 24) fun v5=>
 Ya (Zpc a1 (Znb [(Yb .u8 v2),(Yb .u8 (shr .u32 v2 8)),(Yb .u8 (shr .u32 v2 16)),(Yb .u8 (shr .u32 v2 24))])) fun v6=>
 some v6
def Zaj.con (k:Nat):Con:=Sig.con { ps:=[.val false .str (ros .str)],rs:=[.val false [.v .str]],ntmps:=21 } (fun x=>Zaj k x)
theorem Zaj.ok (k:Nat):Zf Tryz.prog 254 (Zaj.con k):=fA (cX (cC (Zdc.ok k) cN)) Tryz.func254
def Zqk (k:Nat) (a1:Str):Option (Str×Int):=
 bif decide (((a1.length):Int)<4) then
  some ([],4)
 else
 Ya (Z9b a1 0 (Yb .i64 (((a1.length):Int)-4))) fun v2=>
 Ya (Zaj k v2) fun v3=>
 bif !(v3==a1) then
  some ([],5)
 else
 some (v2,0)
def Zqk.con (k:Nat):Con:=Sig.con { ps:=[.val false .str (ros .str)],rs:=[.val false [.v .str],.val false [.v (.int .i64)]],ntmps:=18 } (fun x=>Zqk k x)
theorem Zqk.ok (k:Nat):Zf Tryz.prog 225 (Zqk.con k):=fA (cX (cC (Zaj.ok k) cN)) Tryz.func225
def Zlm (k:Nat) (a1:Str):Option (Int×Str×Int):=
 Ya (Zqk k a1) fun v2=>
 bif v2.2 != 0 then
  some (0,[],v2.2)
 else
 Ya (Zfc k (v2.1,(0,false))) fun v3=>
 Ya (Ztg k v3.2) fun v4=>
 bif v4.2.2.2||(v4.2.2.1 != ((v2.1.length):Int)) then
  some (0,[],3)
 else
 Ya (Zhb v3.1 1 1000000) fun v5=>
 bif (!v5)||(decide (80<((v4.1.length):Int))) then
  some (0,[],3)
 else
 some (v3.1,v4.1,0)
def Zlm.con (k:Nat):Con:=Sig.con { ps:=[.val false .str (ros .str)],rs:=[.val true [.v (.int .i64),.v .str,.v (.int .i64)]],ntmps:=51 } (fun x=>Zlm k x)
theorem Zlm.ok (k:Nat):Zf Tryz.prog 214 (Zlm.con k):=fA (cX (cC (Zhb.ok k) (cC (Zfc.ok k) (cC (Ztg.ok k) (cC (Zqk.ok k) cN))))) Tryz.func214
def Zzc.l0 (k:Nat):Nat→List Str→List Zr→Int→Int→Int→Str→Int→Option ((Int×Int×Str×Int))
 | 0,_,_,_,_,_,_,_=>none
 | j+1,a1,a2,a3,a4,a5,a6,a7=>
  bif decide (a4<2) then
   Ya (Z6f k (a1,a2) a4) fun v8=>
   Ya (Zlm k v8) fun v9=>
   let e10:=Yb .i64 (a4+1)
   bif (v9.2.2==0)&&((decide (a3<0))||(decide (a5<v9.1))) then
    Zzc.l0 k j a1 a2 a4 e10 v9.1 v9.2.1 v9.2.2
   else
   Zzc.l0 k j a1 a2 a3 e10 a5 a6 a7
  else
  some (a3,a5,a6,a7)
def Zzc (k:Nat) (a1:G26):Option (Int×Str×Int×Int):=
 Ya (Zzc.l0 k k a1.1 a1.2 (-1) 0 0 [] 6) fun y2=>
 some (y2.2.1,y2.2.2.1,y2.2.2.2,y2.1)
def Zzc.con (k:Nat):Con:=Sig.con { ps:=[.val true T26 (ros T26)],rs:=[.val true [.v (.int .i64),.v .str,.v (.int .i64)],.val false [.v (.int .i64)]],ntmps:=35 } (fun x=>Zzc k x)
def Zzc.cok (k:Nat):=cXr true false (cC (Z6f.ok k) (cC (Zlm.ok k) cN))
def Zzc.l0.s (k:Nat):Summ:=lp 35 { tmps:=[(1,.eptr [.bor .str,.bor Zp]),(4,.one (.ptr 1 0)),(5,.one (.v (.int .i64))),(9,.one (.v (.int .i64)))],slots:=[(1,.box 156 [.v (.int .i64),.v .str,.v (.int .i64)])],nb:=2 } [(.exit 0,{ tmps:=[(5,.one (.v (.int .i64)))],slots:=[(1,.box 156 [.v (.int .i64),.v .str,.v (.int .i64)])],nb:=2 })] (fun j x=>Zzc.l0 k j x.1 x.2.1 x.2.2.1 x.2.2.2.1 x.2.2.2.2.1 x.2.2.2.2.2.1 x.2.2.2.2.2.2) k
def Zzc.l0.ok (k:Nat):=(lA (Zzc.cok k):Zj Tryz.prog _ (.loop (cO (cO (cR (cL (cR (cR (cB Tryz.f121)))))))) (Zzc.l0.s k))
theorem Zzc.ok (k:Nat):Zf Tryz.prog 121 (Zzc.con k):=fP (.two .auto (.two .auto (.two (.two .auto (.one (.sum (Zzc.l0.s k)))) .auto))) (Zzc.cok k) Tryz.func121 (sC (Zzc.l0.ok k) sN)
def Zgd.l0:Nat→Int→Int→List Int→Option ((List Int))
 | 0,_,_,_=>none
 | j+1,a1,a2,a3=>
  bif decide (a2<24) then
   Ya (Zvb a2) fun v4=>
   let e5:=Yb .i64 (a2+1)
   bif (intBits .and .i64 (shr .i64 a1 a2) 1)==1 then
    Ya (Zt 8 a3 [a2]) fun v6=>
    Zgd.l0 j a1 e5 v6
   else
   Zgd.l0 j a1 e5 a3
  else
  some a3
def Zgd (k:Nat) (a1:Int):Option (List Int):=
 Ya (Zgd.l0 k a1 0 []) fun y2=>
 some y2
def Zgd.con (k:Nat):Con:=Sig.con { ps:=[.val false (.int .i64) (ros (.int .i64))],rs:=[.val false [.own 2 (.int .i64)]],ntmps:=19 } (fun x=>Zgd k x)
def Zgd.cok (k:Nat):=cX cN
def Zgd.l0.s (k:Nat):Summ:=lp 19 { tmps:=[(0,.one (.v (.int .i64))),(3,.one (.own 0)),(5,.one (.v (.int .i64)))],slots:=[(0,.arr false 2 (.int .i64))],nb:=1 } [(.exit 0,{ tmps:=[(3,.one (.own 1))],slots:=[(1,.arr false 2 (.int .i64))],nb:=2 })] (fun j x=>Zgd.l0 j x.1 x.2.1 x.2.2) k
def Zgd.l0.ok (k:Nat):=(lA (Zgd.cok k):Zj Tryz.prog _ (.loop (cO (cO (cR (cL (cR (cR (cB Tryz.f139)))))))) (Zgd.l0.s k))
theorem Zgd.ok (k:Nat):Zf Tryz.prog 139 (Zgd.con k):=fP (.two .auto (.two .auto (.two (.two .auto (.one (.sum (Zgd.l0.s k)))) .auto))) (Zgd.cok k) Tryz.func139 (sC (Zgd.l0.ok k) sN)
def Zse.l0:Nat→List Int→List Int→Int→Int→Option (Unit ⊕ Bool)
 | 0,_,_,_,_=>none
 | j+1,a1,a2,a3,a4=>
  bif decide (a4<a3) then
   Ya (at? a2 a4) fun v5=>
   Ya (Zhb v5 0 23) fun v6=>
   bif !v6 then
    some (.inr false)
   else
   let e7:=Yb .i64 (a4+1)
   bif decide (0<a4) then
    Ya (at? a1 (Yb .i64 (a4-1))) fun v8=>
    bif decide (v5≤v8) then
     some (.inr false)
    else
    Zse.l0 j a1 a2 a3 e7
   else
   Zse.l0 j a1 a2 a3 e7
  else
  some (.inl ())
def Zse (k:Nat) (a1:List Int):Option (Bool):=
 Ya (Zse.l0 k a1 a1 ((a1.length):Int) 0) fun
  | .inl y2=>
   some true
  | .inr y3=>
   some y3
def Zse.con (k:Nat):Con:=Sig.con { ps:=[.val false (.sl (.int .i64)) (ros (.sl (.int .i64)))],rs:=[.val false [.v .bool]],ntmps:=29 } (fun x=>Zse k x)
def Zse.cok (k:Nat):=cX (cC (Zhb.ok k) cN)
def Zse.l0.s (k:Nat):Summ:=lp 29 { tmps:=[(0,.one (.bor (.int .i64))),(5,.one (.bor (.int .i64))),(6,.one (.v (.int .i64))),(7,.one (.v (.int .i64)))],slots:=[],nb:=0 } [(.exit 0,{ tmps:=[],slots:=[],nb:=0 }),(.ret,{ tmps:=[(2,.one (.v .bool))],slots:=[],nb:=0 })] (fun j x=>Zse.l0 j x.1 x.2.1 x.2.2.1 x.2.2.2) k
def Zse.l0.ok (k:Nat):=(lA (Zse.cok k):Zj Tryz.prog _ (.loop (cO (cO (cR (cL (cR (cB Tryz.f65))))))) (Zse.l0.s k))
theorem Zse.ok (k:Nat):Zf Tryz.prog 65 (Zse.con k):=fP (.two .auto (.two (.two .auto (.one (.sum (Zse.l0.s k)))) .auto)) (Zse.cok k) Tryz.func65 (sC (Zse.l0.ok k) sN)
def Z4j (a1:List Int):Option (Int):=
 some ((a1.length):Int)
def Z4j.con (k:Nat):Con:=Sig.con { ps:=[.val false (.sl (.int .i64)) (ros (.sl (.int .i64)))],rs:=[.val false [.v (.int .i64)]],ntmps:=5 } (fun x=>Z4j x)
theorem Z4j.ok (k:Nat):Zf Tryz.prog 137 (Z4j.con k):=fA (cX cN) Tryz.func137
def Zlc.l0:Nat→Int→List Int→Int→Int→Option (Int)
 | 0,_,_,_,_=>none
 | j+1,a1,a2,a3,a4=>
  bif decide (a4<a3) then
   Ya (at? a2 a4) fun v5=>
   Ya (Zvb v5) fun v6=>
   Zlc.l0 j (intBits .or .i64 a1 (shl .i64 1 v5)) a2 a3 (Yb .i64 (a4+1))
  else
  some a1
def Zlc (k:Nat) (a1:List Int):Option (Int):=
 Ya (Zlc.l0 k 0 a1 ((a1.length):Int) 0) fun y2=>
 some y2
def Zlc.con (k:Nat):Con:=Sig.con { ps:=[.val false (.sl (.int .i64)) (ros (.sl (.int .i64)))],rs:=[.val false [.v (.int .i64)]],ntmps:=18 } (fun x=>Zlc k x)
def Zlc.cok (k:Nat):=cX cN
def Zlc.l0.s (k:Nat):Summ:=lp 18 { tmps:=[(3,.one (.v (.int .i64))),(6,.one (.bor (.int .i64))),(7,.one (.v (.int .i64))),(8,.one (.v (.int .i64)))],slots:=[],nb:=0 } [(.exit 0,{ tmps:=[(3,.one (.v (.int .i64)))],slots:=[],nb:=0 })] (fun j x=>Zlc.l0 j x.1 x.2.1 x.2.2.1 x.2.2.2) k
def Zlc.l0.ok (k:Nat):=(lA (Zlc.cok k):Zj Tryz.prog _ (.loop (cO (cO (cR (cL (cR (cR (cB Tryz.f140)))))))) (Zlc.l0.s k))
theorem Zlc.ok (k:Nat):Zf Tryz.prog 140 (Zlc.con k):=fP (.two .auto (.two .auto (.two (.two .auto (.one (.sum (Zlc.l0.s k)))) .auto))) (Zlc.cok k) Tryz.func140 (sC (Zlc.l0.ok k) sN)
def Zbp (k:Nat) (a1:G46):Option (Bool):=
 Ya (Zhb a1.1 1 5) fun v2=>
 bif !v2 then
  some false
 else
 Ya (Zse k a1.2.2.2.2.2.2.1) fun v3=>
 bif !v3 then
  some false
 else
 Ya (Zse k a1.2.2.2.2.2.2.2) fun v4=>
 bif !v4 then
  some false
 else
 Ya (Zlc k a1.2.2.2.2.2.2.1) fun v5=>
 Ya (Zlc k a1.2.2.2.2.2.2.2) fun v6=>
 bif (intBits .and .i64 v5 v6) != 0 then
  some false
 else
 let e7:=a1.2.1==0
 let e8:=a1.2.2.2.2.1==0
 bif a1.1==1 then
  some (((((e7&&(a1.2.2.1==0))&&(a1.2.2.2.1==0))&&e8)&&(a1.2.2.2.2.2.1==[]))&&(((a1.2.2.2.2.2.2.2.length):Int)==0))
 else
 Ya (Zhb a1.2.2.1 1 20) fun v9=>
 bif v9 then
  Ya (Zhb a1.2.2.2.1 0 4) fun v10=>
  bif v10 then
   Ya (Z4j a1.2.2.2.2.2.2.2) fun v11=>
   bif v11==(Yb .i64 (a1.2.2.1+a1.2.2.2.1)) then
    bif ((a1.2.2.2.2.2.1.length):Int)==32 then
     Ya (Zhb a1.2.1 0 2) fun v12=>
     bif v12 then
      let e13:=a1.1==5
      bif e7 then
       Ya (Zhb a1.2.2.2.2.1 0 40) fun v14=>
       bif v14 then
        bif e8 then
         some true
        else
        some e13
       else
       some false
      else
      bif a1.1==4 then
       Ya (Zhb a1.2.2.2.2.1 0 40) fun v15=>
       bif v15 then
        bif e8 then
         some true
        else
        some e13
       else
       some false
      else
      some false
     else
     some false
    else
    some false
   else
   some false
  else
  some false
 else
 some false
def Zbp.con (k:Nat):Con:=Sig.con { ps:=[.val true T46 (ros T46)],rs:=[.val false [.v .bool]],ntmps:=116 } (fun x=>Zbp k x)
theorem Zbp.ok (k:Nat):Zf Tryz.prog 217 (Zbp.con k):=fA (cXr true false (cC (Zse.ok k) (cC (Zhb.ok k) (cC (Z4j.ok k) (cC (Zlc.ok k) cN))))) Tryz.func217
def Zjp (k:Nat) (a1:Str):Option (Int×Int×Int×Int×Int×Str×List Int×List Int×Bool):=
 Ya (Zfc k (a1,(0,false))) fun v2=>
 Ya (Zfc k v2.2) fun v3=>
 Ya (Zfc k v3.2) fun v4=>
 Ya (Zfc k v4.2) fun v5=>
 Ya (Zfc k v5.2) fun v6=>
 Ya (Zfc k v6.2) fun v7=>
 Ya (Zfc k v7.2) fun v8=>
 Ya (Ztg k v8.2) fun v9=>
 bif v9.2.2.2||(v9.2.2.1 != ((a1.length):Int)) then
  some (0,0,0,0,0,[],[],[],false)
 else
 Ya (Zhb v7.1 0 16777215) fun v10=>
 bif !v10 then
  some (0,0,0,0,0,[],[],[],false)
 else
 Ya (Zhb v8.1 0 16777215) fun v11=>
 bif !v11 then
  some (0,0,0,0,0,[],[],[],false)
 else
 Ya (Zgd k v7.1) fun v12=>
 Ya (Zgd k v8.1) fun v13=>
 Ya (Zbp k (v2.1,(v3.1,(v4.1,(v5.1,(v6.1,(v9.1,(v12,v13)))))))) fun v14=>
 bif !v14 then
  some (0,0,0,0,0,[],[],[],false)
 else
 some (v2.1,v3.1,v4.1,v5.1,v6.1,v9.1,v12,v13,true)
def Zjp.con (k:Nat):Con:=Sig.con { ps:=[.val false .str (ros .str)],rs:=[.val true [.v (.int .i64),.v (.int .i64),.v (.int .i64),.v (.int .i64),.v (.int .i64),.v .str,.own 2 (.int .i64),.own 2 (.int .i64)],.val false [.v .bool]],ntmps:=64 } (fun x=>Zjp k x)
theorem Zjp.ok (k:Nat):Zf Tryz.prog 122 (Zjp.con k):=fA (cX (cC (Zhb.ok k) (cC (Zgd.ok k) (cC (Zfc.ok k) (cC (Ztg.ok k) (cC (Zbp.ok k) cN)))))) Tryz.func122
def Znh (k:Nat) (a1:G28):Option (Int×Int×Int×Int×Int×Str×List Int×List Int×Bool):=
 Ya (Z3j a1.1) fun v2=>
 bif !v2 then
  some (0,0,0,0,0,[],[],[],false)
 else
 Ya (Zre k a1.2) fun v3=>
 bif !v3 then
  some (0,0,0,0,0,[],[],[],false)
 else
 Ya (Zji a1.2.1) fun v4=>
 bif v4 != (Yb .i64 ((Yb .i64 (3+a1.1))+24)) then
  some (0,0,0,0,0,[],[],[],false)
 else
 Ya (Zzc k a1.2) fun v5=>
 bif decide (v5.2.2.2<0) then
  some (0,0,0,0,0,[],[],[],false)
 else
 Ya (Zjp k v5.2.1) fun v6=>
 some (v6.1,v6.2.1,v6.2.2.1,v6.2.2.2.1,v6.2.2.2.2.1,v6.2.2.2.2.2.1,v6.2.2.2.2.2.2.1,v6.2.2.2.2.2.2.2.1,v6.2.2.2.2.2.2.2.2)
def Znh.con (k:Nat):Con:=Sig.con { ps:=[.val true T28 (ros T28)],rs:=[.val true [.v (.int .i64),.v (.int .i64),.v (.int .i64),.v (.int .i64),.v (.int .i64),.v .str,.own 2 (.int .i64),.own 2 (.int .i64)],.val false [.v .bool]],ntmps:=42 } (fun x=>Znh k x)
theorem Znh.ok (k:Nat):Zf Tryz.prog 59 (Znh.con k):=fA (cXr true false (cC (Z3j.ok k) (cC (Zji.ok k) (cC (Zre.ok k) (cC (Zzc.ok k) (cC (Zjp.ok k) cN)))))) Tryz.func59
def Zmh (a1:G28) (a2:Int):Option (Int):=
 some (Yb .i64 ((Yb .i64 (3+a1.1))+a2))
def Zmh.con (k:Nat):Con:=Sig.con { ps:=[.val true T28 (ros T28),.val false (.int .i64) (ros (.int .i64))],rs:=[.val false [.v (.int .i64)]],ntmps:=10 } (fun x=>Zmh x.1 x.2)
theorem Zmh.ok (k:Nat):Zf Tryz.prog 145 (Zmh.con k):=fA (cXr true false cN) Tryz.func145
def Z8i (k:Nat) (a1:G28) (a2:Int):Option (Str):=
 Ya (Zmh a1 a2) fun v3=>
 Ya (Z6f k a1.2 v3) fun v4=>
 some v4
def Z8i.con (k:Nat):Con:=Sig.con { ps:=[.val true T28 (ros T28),.val false (.int .i64) (ros (.int .i64))],rs:=[.val false [.v .str]],ntmps:=11 } (fun x=>Z8i k x.1 x.2)
theorem Z8i.ok (k:Nat):Zf Tryz.prog 144 (Z8i.con k):=fA (cXr true false (cC (Z6f.ok k) (cC (Zmh.ok k) cN))) Tryz.func144
def Zii (a1:Int):Option (Bool):=
 Ya (Zhb a1 0 1000000) fun v2=>
 some v2
def Zii.con (k:Nat):Con:=Sig.con { ps:=[.val false (.int .i64) (ros (.int .i64))],rs:=[.val false [.v .bool]],ntmps:=5 } (fun x=>Zii x)
theorem Zii.ok (k:Nat):Zf Tryz.prog 125 (Zii.con k):=fA (cX (cC (Zhb.ok k) cN)) Tryz.func125
def Znc.j0 (a1:Int) (a2:Bool) (a3:Int) (a4:Int) (a5:Int) (a6:Str):Option ((Bool×Int×Int×Int×Str)):=
 bif (a3==3)||(a3==4) then
  Ya (Zhb a5 0 (Yb .i64 (a1-1))) fun v7=>
  some (v7,a3,a4,a5,a6)
 else
 some (a2,a3,a4,a5,a6)
def Znc.j1 (a1:Bool) (a2:Int) (a3:Int) (a4:Int) (a5:Str):Option ((Bool×Int×Int×Int×Str)):=
 bif (a2==2)||(a2==4) then
  some (((a5.length):Int)==8,a2,a3,a4,a5)
 else
 some (a1,a2,a3,a4,a5)
def Znc (a1:G52) (a2:Int):Option (Bool):=
 Ya (Zhb a1.2.1 0 (Yb .i64 (a2-1))) fun v3=>
 Ya (Znc.j0 a2 (a1.2.2.1==0) a1.1 a1.2.1 a1.2.2.1 a1.2.2.2) fun y4=>
 Ya (Znc.j1 (a1.2.2.2==[]) y4.2.1 y4.2.2.1 y4.2.2.2.1 y4.2.2.2.2) fun y5=>
 bif y5.2.1==5 then
  Ya (Zii y5.2.2.2.1) fun v6=>
  Ya (Zhb y5.2.1 1 5) fun v7=>
  some (((v7&&(y5.2.2.1==0))&&v6)&&y5.1)
 else
 Ya (Zhb y5.2.1 1 5) fun v8=>
 some (((v8&&v3)&&y4.1)&&y5.1)
def Znc.con (k:Nat):Con:=Sig.con { ps:=[.val true T52 (ros T52),.val false (.int .i64) (ros (.int .i64))],rs:=[.val false [.v .bool]],ntmps:=65 } (fun x=>Znc x.1 x.2)
def Znc.cok (k:Nat):=cX (cC (Zhb.ok k) (cC (Zii.ok k) cN))
def Znc.j0.s (k:Nat):Summ:=lq 65 { tmps:=[(1,.one (.v (.int .i64))),(2,.one (.ptr 0 0)),(6,.one (.v .bool))],slots:=[(0,.box 52 [.v (.int .i64),.v (.int .i64),.v (.int .i64),.v .str])],nb:=1 } [(.nrm,{ tmps:=[(6,.one (.v .bool))],slots:=[(0,.box 52 [.v (.int .i64),.v (.int .i64),.v (.int .i64),.v .str])],nb:=1 })] (fun x=>Znc.j0 x.1 x.2.1 x.2.2.1 x.2.2.2.1 x.2.2.2.2.1 x.2.2.2.2.2)
def Znc.j0.ok (k:Nat):=(jA (Znc.cok k):Zj Tryz.prog _ (cL (cR (cR (cB Tryz.f124)))) (Znc.j0.s k))
def Znc.j1.s (k:Nat):Summ:=lq 65 { tmps:=[(2,.one (.ptr 0 0)),(7,.one (.v .bool))],slots:=[(0,.box 52 [.v (.int .i64),.v (.int .i64),.v (.int .i64),.v .str])],nb:=1 } [(.nrm,{ tmps:=[(7,.one (.v .bool))],slots:=[(0,.box 52 [.v (.int .i64),.v (.int .i64),.v (.int .i64),.v .str])],nb:=1 })] (fun x=>Znc.j1 x.1 x.2.1 x.2.2.1 x.2.2.2.1 x.2.2.2.2)
def Znc.j1.ok (k:Nat):=(jA (Znc.cok k):Zj Tryz.prog _ (cL (cR (cR (cR (cB Tryz.f124))))) (Znc.j1.s k))
theorem Znc.ok (k:Nat):Zf Tryz.prog 124 (Znc.con k):=fP (.two .auto (.two .auto (.two (.sum (Znc.j0.s k)) (.two (.sum (Znc.j1.s k)) .auto)))) (Znc.cok k) Tryz.func124 (sC (Znc.j0.ok k) (sC (Znc.j1.ok k) sN))
def Zhp (k:Nat) (a1:Ziu):Option (Int×Int×Int×Str×Str×Int×Bool):=
 Ya (Zfc k a1) fun v2=>
 Ya (Zfc k v2.2) fun v3=>
 Ya (Zfc k v3.2) fun v4=>
 Ya (Ztg k v4.2) fun v5=>
 some (v2.1,v3.1,v4.1,v5.1,v5.2.1,v5.2.2.1,v5.2.2.2)
def Zhp.con (k:Nat):Con:=Sig.con { ps:=[.ref 234 Zkk (Z7g Zkk)],rs:=[.val true [.v (.int .i64),.v (.int .i64),.v (.int .i64),.v .str]],ntmps:=12 } (fun x=>Zhp k x)
theorem Zhp.ok (k:Nat):Zf Tryz.prog 293 (Zhp.con k):=fA (cX (cC (Zfc.ok k) (cC (Ztg.ok k) cN))) Tryz.func293
def Zmm (k:Nat) (a1:Str) (a2:Int):Option (Int×Int×Int×Str×Int):=
 Ya (Zqk k a1) fun v3=>
 bif v3.2 != 0 then
  some (0,0,0,[],v3.2)
 else
 Ya (Zfc k (v3.1,(0,false))) fun v4=>
 Ya (Zhp k v4.2) fun v5=>
 bif v5.2.2.2.2.2.2||(v5.2.2.2.2.2.1 != ((v3.1.length):Int)) then
  some (0,0,0,[],3)
 else
 Ya (Zii v4.1) fun v6=>
 bif !v6 then
  some (0,0,0,[],3)
 else
 Ya (Znc (v5.1,(v5.2.1,(v5.2.2.1,v5.2.2.2.1))) 8) fun v7=>
 bif !v7 then
  some (0,0,0,[],3)
 else
 bif v4.1 != a2 then
  some (0,0,0,[],6)
 else
 some (v5.1,v5.2.1,v5.2.2.1,v5.2.2.2.1,0)
def Zmm.con (k:Nat):Con:=Sig.con { ps:=[.val false .str (ros .str),.val false (.int .i64) (ros (.int .i64))],rs:=[.val true [.v (.int .i64),.v (.int .i64),.v (.int .i64),.v .str],.val false [.v (.int .i64)]],ntmps:=58 } (fun x=>Zmm k x.1 x.2)
theorem Zmm.ok (k:Nat):Zf Tryz.prog 261 (Zmm.con k):=fA (cX (cC (Znc.ok k) (cC (Zii.ok k) (cC (Zfc.ok k) (cC (Zqk.ok k) (cC (Zhp.ok k) cN)))))) Tryz.func261
def Zmf.l0 (k:Nat):Nat→List Str→Int→Int→List G52→Option ((List G52))
 | 0,_,_,_,_=>none
 | j+1,a1,a2,a3,a4=>
  bif decide (a3<a2) then
   Ya (at? a1 a3) fun v5=>
   Ya (Zmm k v5 a3) fun v6=>
   bif v6.2.2.2.2 != 0 then
    some a4
   else
   Ya (Zt 40 a4 [(v6.1,(v6.2.1,(v6.2.2.1,v6.2.2.2.1)))]) fun v7=>
   Zmf.l0 k j a1 a2 (Yb .i64 (a3+1)) v7
  else
  some a4
def Zmf (k:Nat) (a1:List Str):Option (List G52):=
 Ya (Zmf.l0 k k a1 ((a1.length):Int) 0 []) fun y2=>
 some y2
def Zmf.con (k:Nat):Con:=Sig.con { ps:=[.val false (.sl .str) (ros (.sl .str))],rs:=[.val false [.own 52 T52]],ntmps:=29 } (fun x=>Zmf k x)
def Zmf.cok (k:Nat):=cX (cC (Zmm.ok k) cN)
def Zmf.l0.s (k:Nat):Summ:=lp 29 { tmps:=[(3,.one (.own 0)),(8,.one (.bor .str)),(9,.one (.v (.int .i64))),(10,.one (.v (.int .i64)))],slots:=[(0,.arr false 52 T52)],nb:=1 } [(.exit 0,{ tmps:=[(3,.one (.own 1))],slots:=[(1,.arr false 52 T52)],nb:=2 })] (fun j x=>Zmf.l0 k j x.1 x.2.1 x.2.2.1 x.2.2.2) k
def Zmf.l0.ok (k:Nat):=(lA (Zmf.cok k):Zj Tryz.prog _ (.loop (cO (cO (cR (cL (cR (cR (cB Tryz.f195)))))))) (Zmf.l0.s k))
theorem Zmf.ok (k:Nat):Zf Tryz.prog 195 (Zmf.con k):=fP (.two .auto (.two .auto (.two (.two .auto (.one (.sum (Zmf.l0.s k)))) .auto))) (Zmf.cok k) Tryz.func195 (sC (Zmf.l0.ok k) sN)
def Z7c.l0 (k:Nat):Nat→Int→List Str→List Zr→List Int→Int→Int→List Str→Option ((List Str))
 | 0,_,_,_,_,_,_,_=>none
 | j+1,a1,a2,a3,a4,a5,a6,a7=>
  bif decide (a6<a5) then
   Ya (at? a4 a6) fun v8=>
   Ya (Z8i k (a1,(a2,a3)) v8) fun v9=>
   Ya (Zt 16 a7 [v9]) fun v10=>
   Z7c.l0 k j a1 a2 a3 a4 a5 (Yb .i64 (a6+1)) v10
  else
  some a7
def Z7c (k:Nat) (a1:G28) (a2:G46):Option (List G52):=
 Ya (Z9b a2.2.2.2.2.2.2.2 a2.2.2.2.1 ((a2.2.2.2.2.2.2.2.length):Int)) fun v3=>
 Ya (Z7c.l0 k k a1.1 a1.2.1 a1.2.2 v3 ((v3.length):Int) 0 []) fun y4=>
 Ya (Zmf k y4) fun v5=>
 some v5
def Z7c.con (k:Nat):Con:=Sig.con { ps:=[.val true T28 (ros T28),.val true T46 (ros T46)],rs:=[.val false [.own 52 T52]],ntmps:=27 } (fun x=>Z7c k x.1 x.2)
def Z7c.cok (k:Nat):=cXr true false (cC (Z8i.ok k) (cC (Zmf.ok k) cN))
def Z7c.l0.s (k:Nat):Summ:=lp 27 { tmps:=[(2,.eptr [.v (.int .i64),.bor .str,.bor Zp]),(5,.one (.own 0)),(12,.one (.bor (.int .i64))),(13,.one (.v (.int .i64))),(14,.one (.v (.int .i64)))],slots:=[(0,.arr false 9 .str)],nb:=1 } [(.exit 0,{ tmps:=[(5,.one (.own 1))],slots:=[(1,.arr false 9 .str)],nb:=2 })] (fun j x=>Z7c.l0 k j x.1 x.2.1 x.2.2.1 x.2.2.2.1 x.2.2.2.2.1 x.2.2.2.2.2.1 x.2.2.2.2.2.2) k
def Z7c.l0.ok (k:Nat):=(lA (Z7c.cok k):Zj Tryz.prog _ (.loop (cO (cO (cR (cL (cR (cR (cB Tryz.f108)))))))) (Z7c.l0.s k))
theorem Z7c.ok (k:Nat):Zf Tryz.prog 108 (Z7c.con k):=fP (.two .auto (.two .auto (.two (.two .auto (.one (.sum (Z7c.l0.s k)))) .auto))) (Z7c.cok k) Tryz.func108 (sC (Z7c.l0.ok k) sN)
def Zlp (a1:G52) (a2:Int):Option (Bool):=
 Ya (Znc a1 a2) fun v3=>
 some (!v3)
def Zlp.con (k:Nat):Con:=Sig.con { ps:=[.val true T52 (ros T52),.rptr (.int .i64)],rs:=[.val false [.v .bool]],ntmps:=8 } (fun x=>Zlp x.1 x.2)
theorem Zlp.ok (k:Nat):Zf Tryz.prog 197 (Zlp.con k):=fA (cX (cC (Znc.ok k) cN)) Tryz.func197
def Zzd.l0:Nat→List G52→Int→Int→Int→Option (Int ⊕ (Int×Int))
 | 0,_,_,_,_=>none
 | j+1,a1,a2,a3,a4=>
  bif decide (a3<a2) then
   Ya (at? a1 a3) fun v5=>
   Ya (Zlp v5 a4) fun v6=>
   bif v6 then
    some (.inr (a3,a4))
   else
   Zzd.l0 j a1 a2 (Yb .i64 (a3+1)) a4
  else
  some (.inl a4)
def Zzd (k:Nat) (a1:List G52) (a2:Int):Option (Int×Int):=
 Ya (Zzd.l0 k a1 ((a1.length):Int) 0 a2) fun
  | .inl y3=>
   some ((-1),y3)
  | .inr y4=>
   some (y4.1,y4.2)
def Zzd.con (k:Nat):Con:=Sig.con { ps:=[.val false (.sl T52) (ros (.sl T52)),.fn 197 [(2,(.int .i64),(Z7g (.int .i64)))]],rs:=[.val false [.v (.int .i64)]],ntmps:=19 } (fun x=>Zzd k x.1 x.2)
def Zzd.cok (k:Nat):=cX (cC (Zlp.ok k) cN)
def Zzd.l0.s (k:Nat):Summ:=lp 19 { tmps:=[(0,.one (.bor T52)),(1,.fn 197 [.ptr 0 0]),(7,.one (.v (.int .i64))),(8,.one (.v (.int .i64)))],slots:=[(0,.box 2 [.v (.int .i64)])],nb:=1 } [(.exit 0,{ tmps:=[],slots:=[(0,.box 2 [.v (.int .i64)])],nb:=1 }),(.ret,{ tmps:=[(4,.one (.v (.int .i64)))],slots:=[(0,.box 2 [.v (.int .i64)])],nb:=1 })] (fun j x=>Zzd.l0 j x.1 x.2.1 x.2.2.1 x.2.2.2) k
def Zzd.l0.ok (k:Nat):=(lA (Zzd.cok k):Zj Tryz.prog _ (.loop (cO (cO (cR (cL (cR (cB Tryz.f262))))))) (Zzd.l0.s k))
theorem Zzd.ok (k:Nat):Zf Tryz.prog 262 (Zzd.con k):=fP (.two .auto (.two (.two .auto (.one (.sum (Zzd.l0.s k)))) .auto)) (Zzd.cok k) Tryz.func262 (sC (Zzd.l0.ok k) sN)
def Zcq (k:Nat) (a1:List G52) (a2:Int):Option (Bool×Int):=
 Ya (Zzd k a1 a2) fun v3=>
 some (decide (0≤v3.1),v3.2)
def Zcq.con (k:Nat):Con:=Sig.con { ps:=[.val false (.sl T52) (ros (.sl T52)),.fn 197 [(2,(.int .i64),(Z7g (.int .i64)))]],rs:=[.val false [.v .bool]],ntmps:=9 } (fun x=>Zcq k x.1 x.2)
theorem Zcq.ok (k:Nat):Zf Tryz.prog 196 (Zcq.con k):=fA (cX (cC (Zzd.ok k) cN)) Tryz.func196
def Zrr (a1:G52) (a2:Int):Option (Bool):=
 some ((a1.1 != 5)&&(a1.2.1==a2))
def Zrr.con (k:Nat):Con:=Sig.con { ps:=[.val true T52 (ros T52),.rptr (.int .i64)],rs:=[.val false [.v .bool]],ntmps:=13 } (fun x=>Zrr x.1 x.2)
theorem Zrr.ok (k:Nat):Zf Tryz.prog 263 (Zrr.con k):=fA (cX cN) Tryz.func263
def Z0d.l0:Nat→List G52→Int→Int→Int→Option (Int ⊕ (Int×Int))
 | 0,_,_,_,_=>none
 | j+1,a1,a2,a3,a4=>
  bif decide (a3<a2) then
   Ya (at? a1 a3) fun v5=>
   Ya (Zrr v5 a4) fun v6=>
   bif v6 then
    some (.inr (a3,a4))
   else
   Z0d.l0 j a1 a2 (Yb .i64 (a3+1)) a4
  else
  some (.inl a4)
def Z0d (k:Nat) (a1:List G52) (a2:Int):Option (Int×Int):=
 Ya (Z0d.l0 k a1 ((a1.length):Int) 0 a2) fun
  | .inl y3=>
   some ((-1),y3)
  | .inr y4=>
   some (y4.1,y4.2)
def Z0d.con (k:Nat):Con:=Sig.con { ps:=[.val false (.sl T52) (ros (.sl T52)),.fn 263 [(2,(.int .i64),(Z7g (.int .i64)))]],rs:=[.val false [.v (.int .i64)]],ntmps:=19 } (fun x=>Z0d k x.1 x.2)
def Z0d.cok (k:Nat):=cX (cC (Zrr.ok k) cN)
def Z0d.l0.s (k:Nat):Summ:=lp 19 { tmps:=[(0,.one (.bor T52)),(1,.fn 263 [.ptr 0 0]),(7,.one (.v (.int .i64))),(8,.one (.v (.int .i64)))],slots:=[(0,.box 2 [.v (.int .i64)])],nb:=1 } [(.exit 0,{ tmps:=[],slots:=[(0,.box 2 [.v (.int .i64)])],nb:=1 }),(.ret,{ tmps:=[(4,.one (.v (.int .i64)))],slots:=[(0,.box 2 [.v (.int .i64)])],nb:=1 })] (fun j x=>Z0d.l0 j x.1 x.2.1 x.2.2.1 x.2.2.2) k
def Z0d.l0.ok (k:Nat):=(lA (Z0d.cok k):Zj Tryz.prog _ (.loop (cO (cO (cR (cL (cR (cB Tryz.f262))))))) (Z0d.l0.s k))
theorem Z0d.ok (k:Nat):Zf Tryz.prog 262 (Z0d.con k):=fP (.two .auto (.two (.two .auto (.one (.sum (Z0d.l0.s k)))) .auto)) (Z0d.cok k) Tryz.func262 (sC (Z0d.l0.ok k) sN)
def Zmp (k:Nat) (a1:List G52) (a2:Int):Option (Int):=
 Ya (Z0d k a1 a2) fun v3=>
 some v3.1
def Zmp.con (k:Nat):Con:=Sig.con { ps:=[.val false (.sl T52) (ros (.sl T52)),.val false (.int .i64) (ros (.int .i64))],rs:=[.val false [.v (.int .i64)]],ntmps:=8 } (fun x=>Zmp k x.1 x.2)
theorem Zmp.ok (k:Nat):Zf Tryz.prog 198 (Zmp.con k):=fA (cX (cC (Z0d.ok k) cN)) Tryz.func198
def Zcd.l0 (k:Nat):Nat→List G52→Int→Bool→List G52→Int→Int→Option (Bool ⊕ Int)
 | 0,_,_,_,_,_,_=>none
 | j+1,a1,a2,a3,a4,a5,a6=>
  bif decide (a6<a5) then
   Ya (at? a4 a6) fun v7=>
   let e8:=Yb .i64 (a6+1)
   bif v7.1 != 5 then
    Ya (Zmp k a1 v7.2.1) fun v9=>
    bif decide (v9<a6) then
     some (.inr 12)
    else
    Zcd.l0 k j a1 a2 a3 a4 a5 e8
   else
   Zcd.l0 k j a1 v7.2.2.1 (a3&&(decide (a2<v7.2.2.1))) a4 a5 e8
  else
  some (.inl a3)
def Zcd (k:Nat) (a1:List G52) (a2:Int):Option (Int):=
 Ya (Z3j a2) fun v3=>
 bif (!v3)||(decide (20<((a1.length):Int))) then
  some 1
 else
 Ya (Zcq k a1 a2) fun v4=>
 bif v4.1 then
  some 1
 else
 Ya (Zcd.l0 k k a1 (-1) true a1 ((a1.length):Int) 0) fun
  | .inl y5=>
   bif !y5 then
    some 8
   else
   some 0
  | .inr y6=>
   some y6
def Zcd.con (k:Nat):Con:=Sig.con { ps:=[.val false (.sl T52) (ros (.sl T52)),.val false (.int .i64) (ros (.int .i64))],rs:=[.val false [.v (.int .i64)]],ntmps:=50 } (fun x=>Zcd k x.1 x.2)
def Zcd.cok (k:Nat):=cX (cC (Z3j.ok k) (cC (Zcq.ok k) (cC (Zmp.ok k) cN)))
def Zcd.l0.s (k:Nat):Summ:=lp 50 { tmps:=[(0,.one (.bor T52)),(5,.one (.v (.int .i64))),(6,.one (.v .bool)),(22,.one (.bor T52)),(23,.one (.v (.int .i64))),(24,.one (.v (.int .i64)))],slots:=[],nb:=1 } [(.exit 0,{ tmps:=[(6,.one (.v .bool))],slots:=[],nb:=1 }),(.ret,{ tmps:=[(4,.one (.v (.int .i64)))],slots:=[],nb:=1 })] (fun j x=>Zcd.l0 k j x.1 x.2.1 x.2.2.1 x.2.2.2.1 x.2.2.2.2.1 x.2.2.2.2.2) k
def Zcd.l0.ok (k:Nat):=(lA (Zcd.cok k):Zj Tryz.prog _ (.loop (cO (cO (cR (cL (cR (cR (cR (cR (cB Tryz.f109)))))))))) (Zcd.l0.s k))
theorem Zcd.ok (k:Nat):Zf Tryz.prog 109 (Zcd.con k):=fP (.two .auto (.two .auto (.two .auto (.two .auto (.two (.two .auto (.one (.sum (Zcd.l0.s k)))) .auto))))) (Zcd.cok k) Tryz.func109 (sC (Zcd.l0.ok k) sN)
def Zil (a1:G52):Option (Bool):=
 some (a1.1==5)
def Zil.con (k:Nat):Con:=Sig.con { ps:=[.val true T52 (ros T52)],rs:=[.val false [.v .bool]],ntmps:=6 } (fun x=>Zil x)
theorem Zil.ok (k:Nat):Zf Tryz.prog 210 (Zil.con k):=fA (cX cN) Tryz.func210
def Z1d.l0:Nat→List G52→Int→Int→Option (Unit ⊕ Int)
 | 0,_,_,_=>none
 | j+1,a1,a2,a3=>
  bif decide (a3<a2) then
   Ya (at? a1 a3) fun v4=>
   Ya (Zil v4) fun v5=>
   bif v5 then
    some (.inr a3)
   else
   Z1d.l0 j a1 a2 (Yb .i64 (a3+1))
  else
  some (.inl ())
def Z1d (k:Nat) (a1:List G52):Option (Int):=
 Ya (Z1d.l0 k a1 ((a1.length):Int) 0) fun
  | .inl y2=>
   some (-1)
  | .inr y3=>
   some y3
def Z1d.con (k:Nat):Con:=Sig.con { ps:=[.val false (.sl T52) (ros (.sl T52)),.fn 210 []],rs:=[.val false [.v (.int .i64)]],ntmps:=19 } (fun x=>Z1d k x)
def Z1d.cok (k:Nat):=cX (cC (Zil.ok k) cN)
def Z1d.l0.s (k:Nat):Summ:=lp 19 { tmps:=[(0,.one (.bor T52)),(1,.fn 210 []),(7,.one (.v (.int .i64))),(8,.one (.v (.int .i64)))],slots:=[],nb:=0 } [(.exit 0,{ tmps:=[],slots:=[],nb:=0 }),(.ret,{ tmps:=[(4,.one (.v (.int .i64)))],slots:=[],nb:=0 })] (fun j x=>Z1d.l0 j x.1 x.2.1 x.2.2) k
def Z1d.l0.ok (k:Nat):=(lA (Z1d.cok k):Zj Tryz.prog _ (.loop (cO (cO (cR (cL (cR (cB Tryz.f262))))))) (Z1d.l0.s k))
theorem Z1d.ok (k:Nat):Zf Tryz.prog 262 (Z1d.con k):=fP (.two .auto (.two (.two .auto (.one (.sum (Z1d.l0.s k)))) .auto)) (Z1d.cok k) Tryz.func262 (sC (Z1d.l0.ok k) sN)
def Z9f.l0:Nat→Int→Int→List G52→Option ((Int×List G52))
 | 0,_,_,_=>none
 | j+1,a1,a2,a3=>
  bif decide (a2<((a3.length):Int)) then
   Ya (at? a3 a2) fun v4=>
   Ya (at? a3 a2) fun v5=>
   Ya (Zil v5) fun v6=>
   let e7:=Yb .i64 (a2+1)
   bif !v6 then
    Ya (at? a3 a1) fun v8=>
    Ya (at? a3 a1) fun v9=>
    Z9f.l0 j (Yb .i64 (a1+1)) e7 (Yd a3 (Yc a1) v5)
   else
   Z9f.l0 j a1 e7 a3
  else
  some (a1,a3)
def Z9f (k:Nat) (a1:List G52):Option (List G52):=
 Ya (Z1d k a1) fun v2=>
 bif v2==(-1) then
  some a1
 else
 Ya (Z9f.l0 k v2 (Yb .i64 (v2+1)) a1) fun y3=>
 Ya (Zyw y3.1 (y3.2.length)) fun v4=>
 Ya (Z9b (List.take (Yc y3.1) y3.2++Yi (List.length y3.2-Yc y3.1) (0,(0,(0,[])))) 0 y3.1) fun v5=>
 some v5
def Z9f.con (k:Nat):Con:=Sig.con { ps:=[.mv 52 T52,.fn 210 []],rs:=[.val false [.v (.sl T52)]],ntmps:=42 } (fun x=>Z9f k x)
def Z9f.cok (k:Nat):=cXr false true (cC (Zil.ok k) (cC (Z1d.ok k) cN))
def Z9f.l0.s (k:Nat):Summ:=lp 42 { tmps:=[(0,.one (.own 1)),(1,.fn 210 []),(5,.one (.v (.int .i64))),(6,.one (.v (.int .i64)))],slots:=[(1,.arr false 52 T52)],nb:=2 } [(.exit 0,{ tmps:=[(0,.one (.own 2)),(5,.one (.v (.int .i64)))],slots:=[(2,.arr false 52 T52)],nb:=3 })] (fun j x=>Z9f.l0 j x.1 x.2.1 x.2.2) k
def Z9f.l0.ok (k:Nat):=(lA (Z9f.cok k):Zj Tryz.prog _ (.loop (cO (cO (cR (cL (cR (cR (cR (cB Tryz.f208))))))))) (Z9f.l0.s k))
theorem Z9f.ok (k:Nat):Zf Tryz.prog 208 (Z9f.con k):=fP (.two .auto (.two .auto (.two .auto (.two (.two .auto (.one (.sum (Z9f.l0.s k)))) .auto)))) (Z9f.cok k) Tryz.func208 (sC (Z9f.l0.ok k) sN)
def Zkj (a:List G52):Option (List G52):=Ya (Zt 40 [] a) fun y=>some y
def Zkj.sig:Sig:={ ps:=[.val false (.sl T52) (ros (.sl T52))],rs:=[.val false [.own 52 T52]],ntmps:=8 }
def Zkj.con (k:Nat):Con:=Zkj.sig.con (fun x=>Zkj x)
theorem Zkj.ok (k:Nat):Zf Tryz.prog 209 (Zkj.con k):=
 Zxx (e:=52) (C:={ ti:=TAB,con:=Zel [] }) (s:=Zkj.sig) (G:=fun x=>Zkj x) (Zws Zps trivial) Tryz.func209 (by kernel_rfl) rfl (by kernel_rfl) (by kernel_rfl) (by kernel_rfl) rfl rfl rfl rfl rfl rfl (by kernel_rfl) (by kernel_rfl)
  (fun x=>⟨_,_,.inl rfl⟩) (fun x y h=>Eq.trans (b:=Zkj x) (by kernel_rfl) h) (fun x y h hl=>by
   have e:x=([]:List G52):=hl T52 x (.inl (by kernel_rfl))
   subst e
   exact Eq.trans (b:=Zkj []) (by kernel_rfl) h)
def Zcj (k:Nat) (a1:List G52):Option (List G52):=
 Ya (Zkj a1) fun v2=>
 Ya (Z9f k v2) fun v3=>
 some v3
def Zcj.con (k:Nat):Con:=Sig.con { ps:=[.val false (.sl T52) (ros (.sl T52))],rs:=[.val false [.v (.sl T52)]],ntmps:=6 } (fun x=>Zcj k x)
theorem Zcj.ok (k:Nat):Zf Tryz.prog 117 (Zcj.con k):=fA (cX (cC (Z9f.ok k) (cC (Zkj.ok k) cN))) Tryz.func117
def Zat (a1:G52) (a2:Int):Option (Bool):=
 some (((a1.1==3)||(a1.1==4))&&(a1.2.2.1==a2))
def Zat.con (k:Nat):Con:=Sig.con { ps:=[.val true T52 (ros T52),.val false (.int .i64) (ros (.int .i64))],rs:=[.val false [.v .bool]],ntmps:=19 } (fun x=>Zat x.1 x.2)
theorem Zat.ok (k:Nat):Zf Tryz.prog 203 (Zat.con k):=fA (cX cN) Tryz.func203
def Zgp (a1:Int) (a2:Int) (a3:List G52) (a4:Int):Option (Bool):=
 bif a1 != a2 then
  Ya (at? a3 a1) fun v5=>
  Ya (Zat v5 a4) fun v6=>
  some v6
 else
 some false
def Zgp.con (k:Nat):Con:=Sig.con { ps:=[.val false (.int .i64) (ros (.int .i64)),.rptr (.int .i64),.rptr (.sl T52),.rptr (.int .i64)],rs:=[.val false [.v .bool]],ntmps:=17 } (fun x=>Zgp x.1 x.2.1 x.2.2.1 x.2.2.2)
theorem Zgp.ok (k:Nat):Zf Tryz.prog 202 (Zgp.con k):=fA (cX (cC (Zat.ok k) cN)) Tryz.func202
def Z2d.l0:Nat→List Int→List G52→Int→Int→Int→Int→Option ((Int×Int) ⊕ (Int×Int×Int))
 | 0,_,_,_,_,_,_=>none
 | j+1,a1,a2,a3,a4,a5,a6=>
  bif decide (a4<a3) then
   Ya (at? a1 a4) fun v7=>
   Ya (Zgp v7 a5 a2 a6) fun v8=>
   bif v8 then
    some (.inr (a4,a5,a6))
   else
   Z2d.l0 j a1 a2 a3 (Yb .i64 (a4+1)) a5 a6
  else
  some (.inl (a5,a6))
def Z2d (k:Nat) (a1:List Int) (a2:Int) (a3:List G52) (a4:Int):Option (Int×Int×Int):=
 Ya (Z2d.l0 k a1 a3 ((a1.length):Int) 0 a2 a4) fun
  | .inl y5=>
   some ((-1),y5.1,y5.2)
  | .inr y6=>
   some (y6.1,y6.2.1,y6.2.2)
def Z2d.con (k:Nat):Con:=Sig.con { ps:=[.val false (.sl (.int .i64)) (ros (.sl (.int .i64))),.fn 202 [(3,(.int .i64),(Z7g (.int .i64))),(4000000,(.sl T52),[.ro]),(2,(.int .i64),(Z7g (.int .i64)))]],rs:=[.val false [.v (.int .i64)]],ntmps:=19 } (fun x=>Z2d k x.1 x.2.1 x.2.2.1 x.2.2.2)
def Z2d.cok (k:Nat):=cX (cC (Zgp.ok k) cN)
def Z2d.l0.s (k:Nat):Summ:=lp 19 { tmps:=[(0,.one (.bor (.int .i64))),(1,.fn 202 [.ptr 0 0,.rp (.sl T52),.ptr 1 0]),(7,.one (.v (.int .i64))),(8,.one (.v (.int .i64)))],slots:=[(0,.box 3 [.v (.int .i64)]),(1,.box 2 [.v (.int .i64)])],nb:=2 } [(.exit 0,{ tmps:=[],slots:=[(0,.box 3 [.v (.int .i64)]),(1,.box 2 [.v (.int .i64)])],nb:=2 }),(.ret,{ tmps:=[(4,.one (.v (.int .i64)))],slots:=[(0,.box 3 [.v (.int .i64)]),(1,.box 2 [.v (.int .i64)])],nb:=2 })] (fun j x=>Z2d.l0 j x.1 x.2.1 x.2.2.1 x.2.2.2.1 x.2.2.2.2.1 x.2.2.2.2.2) k
def Z2d.l0.ok (k:Nat):=(lA (Z2d.cok k):Zj Tryz.prog _ (.loop (cO (cO (cR (cL (cR (cB Tryz.f199))))))) (Z2d.l0.s k))
theorem Z2d.ok (k:Nat):Zf Tryz.prog 199 (Z2d.con k):=fP (.two .auto (.two (.two .auto (.one (.sum (Z2d.l0.s k)))) .auto)) (Z2d.cok k) Tryz.func199 (sC (Z2d.l0.ok k) sN)
def Zdq (k:Nat) (a1:List Int) (a2:Int) (a3:List G52) (a4:Int):Option (Bool×Int×Int):=
 Ya (Z2d k a1 a2 a3 a4) fun v5=>
 some (decide (0≤v5.1),v5.2.1,v5.2.2)
def Zdq.con (k:Nat):Con:=Sig.con { ps:=[.val false (.sl (.int .i64)) (ros (.sl (.int .i64))),.fn 202 [(3,(.int .i64),(Z7g (.int .i64))),(4000000,(.sl T52),[.ro]),(2,(.int .i64),(Z7g (.int .i64)))]],rs:=[.val false [.v .bool]],ntmps:=9 } (fun x=>Zdq k x.1 x.2.1 x.2.2.1 x.2.2.2)
theorem Zdq.ok (k:Nat):Zf Tryz.prog 201 (Zdq.con k):=fA (cX (cC (Z2d.ok k) cN)) Tryz.func201
def Zfp (k:Nat) (a1:Int) (a2:List G52) (a3:List Int) (a4:List Int):Option (Bool×List Int):=
 Ya (at? a2 a1) fun v5=>
 bif Zgg v5.2.1 a3 then
  some (true,a3)
 else
 Ya (Zdq k a4 a1 a2 v5.2.1) fun v6=>
 some (!v6.1,a3)
def Zfp.con (k:Nat):Con:=Sig.con { ps:=[.val false (.int .i64) (ros (.int .i64)),.rptr (.sl T52),.ref 222 (.sl (.int .i64)) [.own 1000222],.rptr (.sl (.int .i64))],rs:=[.val false [.v .bool]],ntmps:=21 } (fun x=>Zfp k x.1 x.2.1 x.2.2.1 x.2.2.2)
theorem Zfp.ok (k:Nat):Zf Tryz.prog 200 (Zfp.con k):=fA (cX (cC (Zdq.ok k) cN)) Tryz.func200
def Zrd.l0 (k:Nat):Nat→List Int→List Int→Int→Int→List G52→List Int→Option ((List G52×List Int) ⊕ (Int×List G52×List Int))
 | 0,_,_,_,_,_,_=>none
 | j+1,a1,a2,a3,a4,a5,a6=>
  bif decide (a4<a3) then
   Ya (at? a1 a4) fun v7=>
   Ya (Zfp k v7 a5 a6 a2) fun v8=>
   bif v8.1 then
    some (.inr (a4,a5,v8.2))
   else
   Zrd.l0 k j a1 a2 a3 (Yb .i64 (a4+1)) a5 v8.2
  else
  some (.inl (a5,a6))
def Zrd (k:Nat) (a1:List Int) (a2:List G52) (a3:List Int) (a4:List Int):Option (Int×List G52×List Int):=
 Ya (Zrd.l0 k k a1 a4 ((a1.length):Int) 0 a2 a3) fun
  | .inl y5=>
   some ((-1),y5.1,y5.2)
  | .inr y6=>
   some (y6.1,y6.2.1,y6.2.2)
def Zrd.con (k:Nat):Con:=Sig.con { ps:=[.val false (.sl (.int .i64)) (ros (.sl (.int .i64))),.fn 200 [(31,(.sl T52),(Z7g (.sl T52))),(222,(.sl (.int .i64)),[.own 1000222]),(4000000,(.sl (.int .i64)),[.ro])]],rs:=[.val false [.v (.int .i64)]],ntmps:=19 } (fun x=>Zrd k x.1 x.2.1 x.2.2.1 x.2.2.2)
def Zrd.cok (k:Nat):=cX (cC (Zfp.ok k) cN)
def Zrd.l0.s (k:Nat):Summ:=lp 19 { tmps:=[(0,.one (.bor (.int .i64))),(1,.fn 200 [.ptr 0 0,.ptr 1 0,.rp (.sl (.int .i64))]),(7,.one (.v (.int .i64))),(8,.one (.v (.int .i64)))],slots:=[(0,.box 31 [.v (.sl T52)]),(1,.box 222 [.own 3]),(3,.arr false 1000222 (.int .i64))],nb:=4 } [(.exit 0,{ tmps:=[],slots:=[(0,.box 31 [.v (.sl T52)]),(1,.box 222 [.own 4]),(4,.arr false 1000222 (.int .i64))],nb:=5 }),(.ret,{ tmps:=[(4,.one (.v (.int .i64)))],slots:=[(0,.box 31 [.v (.sl T52)]),(1,.box 222 [.own 4]),(4,.arr false 1000222 (.int .i64))],nb:=5 })] (fun j x=>Zrd.l0 k j x.1 x.2.1 x.2.2.1 x.2.2.2.1 x.2.2.2.2.1 x.2.2.2.2.2) k
def Zrd.l0.ok (k:Nat):=(lA (Zrd.cok k):Zj Tryz.prog _ (.loop (cO (cO (cR (cL (cR (cB Tryz.f199))))))) (Zrd.l0.s k))
theorem Zrd.ok (k:Nat):Zf Tryz.prog 199 (Zrd.con k):=fP (.two .auto (.two (.two .auto (.one (.sum (Zrd.l0.s k)))) .auto)) (Zrd.cok k) Tryz.func199 (sC (Zrd.l0.ok k) sN)
def slices_Delete_int (l:List Int) (i j:Int):Option (List Int):=if 0≤i∧i≤j∧j≤(l.length:Int) then some (l.take i.toNat++l.drop j.toNat) else none
def slices_Delete_int.con (k:Nat):Con:={ ms:=[.mv,.val [.ro],.val [.ro]],f:=fun xs=>match xs with
 | [.mv e (.int .i64) l,.val false [.leaf (.int .i64 i)],.val false [.leaf (.int .i64 j)]]=>bif Nat.beq e 3 then .opt (List Int) (slices_Delete_int l i j) fun r=>⟨[.val false [.own e (.int .i64) r]],[]⟩ else .fail
 | _=>.fail }
theorem slices_Delete_int.drew (w:World) (q:Nat):(w.drewN q).heap=w.heap∧(w.drewN q).os=w.os∧(w.drewN q).tape=w.tape∧(w.drewN q).output=w.output:=⟨rfl,rfl,rfl,rfl⟩
theorem slices_Delete_int.ok (k:Nat):Zf Tryz.prog 204 (slices_Delete_int.con k):=by
 refine ⟨(Zq2 Tryz.func204 (by kernel_rfl) (show Tryz.f204.body=some (cB Tryz.f204) by kernel_rfl)),?_⟩
 intro xs rr hrr w vs F L M hF hnd hgl hargs
 unfold slices_Delete_int.con at hrr
 dsimp only at hrr
 split at hrr
 ·rename_i e l i j
  cases he:Nat.beq e 3 with
  | false=>rw [he] at hrr;cases hrr
  | true=>
  rw [he] at hrr
  have hm:Zx e=false:=by rw [Nat.eq_of_beq_eq_true he];rfl
  replace hrr:(slices_Delete_int l i j).map (fun r=>(⟨[.val false [.own e (.int .i64) r]],[]⟩:RR))=some rr:=hrr
  unfold slices_Delete_int at hrr
  split at hrr
  ·rename_i hij
   obtain ⟨h0,h1,h2⟩:=hij
   cases hrr
   match vs,hargs with
   | [v1,v2,v3],⟨_,_,_,_,hL,hM,⟨rfl,rfl,hrow⟩,_,_,_,_,hL2,hM2,⟨rfl,hv2,hn2⟩,_,_,_,_,hL3,hM3,⟨rfl,hv3,hn3⟩,hn4,hn5⟩=>
   have hv2:v2 = .int .i64 i:=hv2
   have hv3:v3 = .int .i64 j:=hv3
   subst hv2
   subst hv3
   subst hn2
   subst hn3
   subst hn4
   subst hn5
   subst hL3
   subst hM3
   subst hL2
   subst hM2
   subst hL
   subst hM
   obtain ⟨a,rfl⟩:∃a:Nat,i=(a:Int):=⟨i.toNat,by omega⟩
   obtain ⟨b,rfl⟩:∃b:Nat,j=(b:Int):=⟨j.toNat,by omega⟩
   rw [Yj,Yj]
   rcases hrow.slice hm with ⟨rfl,rfl⟩ | ⟨g,cap,cs,fr,rfl,hh,hun,hfz,hlc,hcs,hcells⟩
   ·have hb0:b=0:=by
     have:(([]:List Int).length:Int)=0:=rfl
     have h2:(b:Int)≤(([]:List Int).length:Int):=h2
     omega
    have ha0:a=0:=by omega
    subst hb0
    subst ha0
    refine (Tryz.slices_Delete_int_empty none 0 w).mono ?_
    rintro e' w' ⟨rfl,rfl⟩
    refine ⟨_,rfl,⟨rfl,rfl,rfl,Yg _,fun _ _ _=>rfl⟩,[],[.row (.slice none 0 0)],?_,Yk,rfl,rfl,Z8b.ok (.inl ⟨rfl,rfl⟩) hm,rfl⟩
    intro c hc q hq
    rw [Yf.1 hc] at hq
    cases hq
   ·have hsz:(Ty.int IntKind.i64).sz=1:=rfl
    rw [hsz,Yh] at hcs
    have hab:a≤b:=by omega
    have hbl:b≤l.length:=by omega
    obtain ⟨rfl,hcapm⟩:=hfz rfl
    have hcell:∀q,q<l.length→w.cell? ⟨g,0+q,none⟩=some (.int .i64 (l.getD q 0)):=by
     intro q hq
     have h3:=hcells q l[q] (List.getElem?_eq_getElem hq)
     have h3:(cs.toList.drop (q*1)).take 1=[.int .i64 l[q]]:=h3
     rw [Yh] at h3
     have h4:cs.toList[q]? = some (.int .i64 l[q]):=by
      have:=congrArg (fun z=>z[0]?) h3
      simpa using this
     rw [cell_of_row w g (0+q) cs e (0,0) hh,Nat.zero_add,← Array.getElem?_toList,h4,List.getD_eq_getElem?_getD,List.getElem?_eq_getElem hq]
     rfl
    refine (Tryz.slices_Delete_int_cells g 0 l.length cap a b l w (Yg _) hlc (by unfold maxLen at hcapm;omega) hab hbl hcell (fun q hq=>by
     simp only [World.frozen?,hh]
     simp)).mono ?_
    rintro e' w' ⟨rfl,q,rfl⟩
    rw [List.take_of_length_le (Yg l.length)]
    obtain ⟨d1,d2,d3,d4⟩:=slices_Delete_int.drew w q
    generalize hvs:((l.take a++l.drop b++Yi (b-a) (0:Int)).map (Value.int .i64))=us
    have hul:us.length=l.length:=by rw [← hvs];simp;omega
    obtain ⟨r1,r2,r3,r4⟩:=Z75 g us 0 (w.drewN q)
    have hh':(w.drewN q).heap[g]? = some (.cells cs e (0,0)):=by rw [d1];exact hh
    have hblk:=Z6r g us 0 cs (w.drewN q) hh' (by omega)
    have hgl:g<w.heap.size:=(Array.getElem?_eq_some_iff.1 hh).1
    have hres:(l.take a++l.drop b).length=l.length-(b-a):=by simp;omega
    refine ⟨_,rfl,⟨r1.trans d2,r2.trans d3,r3.trans d4,by rw [r4,d1];exact Yg _,fun x hx hn=>?_⟩,[],[.row (.slice (some ⟨g,0,none⟩) (l.length-(b-a)) cap)],?_,?_,rfl,rfl,Z8b.ok (.inr ⟨g,cap,_,(0,0),by rw [hres],hblk,.inl rfl,fun _=>⟨rfl,hcapm⟩,by rw [hres];omega,?_,?_⟩) hm,rfl⟩
    ·rw [Zm0 g us 0 (w.drewN q) x (fun ex=>hn (by subst ex;exact Yf.2 rfl)),d1]
    ·intro c hc x hx
     rw [Yf.1 hc] at hx
     cases hx
     exact ⟨.inl (Yf.2 rfl),by rw [r4,d1];exact hgl⟩
    ·exact List.nodup_cons.2 ⟨(fun h=>nomatch h),Yk⟩
    ·rw [List.size_toArray,Zzr _ _ _ (by simp;omega),Array.length_toList,hcs,hsz,Yh]
    ·intro x y hx
     show ((overL cs.toList 0 us).toArray.toList.drop (x*1)).take 1=[.int .i64 y]
     have hxl:=(List.getElem?_eq_some_iff.1 hx).1
     have hus:us[x]? = some (.int .i64 y):=by
      rw [← hvs,List.getElem?_map,List.getElem?_append_left hxl,hx]
      rfl
     rw [Yh,List.toList_toArray]
     apply List.ext_getElem?
     intro m
     rw [List.getElem?_take,List.getElem?_drop,Zem _ _ _ (by simp;omega)]
     cases m with
     | zero=>
      rw [if_pos (by omega),if_neg (by omega),if_pos (by omega),Nat.add_zero,Nat.sub_zero,hus]
      rfl
     | succ m=>rw [if_neg (by omega)];rfl
  ·cases hrr
 ·cases hrr
def Zmb.l0:Nat→Int→Int→List Int→Option ((List Int))
 | 0,_,_,_=>none
 | j+1,a1,a2,a3=>
  bif decide (a2<a1) then
   Ya (at? a3 a2) fun v4=>
   Ya (at? a3 a2) fun v5=>
   Zmb.l0 j a1 (Yb .i64 (a2+1)) (Yd a3 (Yc a2) a2)
  else
  some a3
def Zmb.l1 (k:Nat):Nat→List G52→List Zad→List Int→List Int→Option ((List G52×List Zad×List Int×List Int))
 | 0,_,_,_,_=>none
 | j+1,a1,a2,a3,a4=>
  bif decide (0<((a3.length):Int)) then
   Ya (Zrd k a3 a1 a4 a3) fun v5=>
   bif decide (v5.1<0) then
    Ya (at? a3 0) fun v6=>
    Ya (at? a3 0) fun v7=>
    let e8:=at? v5.2.1 v7
    Ya (e8) fun v9=>
    Ya (Zt 32 a2 [(1,(v7,(v9.2.1,((v5.2.2.length):Int))))]) fun v10=>
    Ya (e8) fun v11=>
    Zmb.l1 k j v5.2.1 v10 a3 (Zgh v11.2.1 v5.2.2)
   else
   let e12:=at? a3 v5.1
   Ya (e12) fun v13=>
   Ya (e12) fun v14=>
   Ya (at? v5.2.1 v14) fun v15=>
   Ya (Zt 32 a2 [(2,(v14,(v15.2.1,0)))]) fun v16=>
   Ya (slices_Delete_int a3 v5.1 (Yb .i64 (v5.1+1))) fun v17=>
   Zmb.l1 k j v5.2.1 v16 v17 v5.2.2
  else
  some (a1,a2,a3,a4)
def Zmb (k:Nat) (a1:List G52):Option (List Zad):=
 Ya (Zcj k a1) fun v2=>
 Ya (Zwg 8 ((v2.length):Int) ((v2.length):Int) 0) fun v3=>
 Ya (Zmb.l0 k ((v3.length):Int) 0 v3) fun y4=>
 Ya (Zmb.l1 k k v2 [] y4 []) fun y5=>
 some y5.2.1
def Zmb.con (k:Nat):Con:=Sig.con { ps:=[.val false (.sl T52) (ros (.sl T52))],rs:=[.val false [.own 139 Z4b]],ntmps:=76 } (fun x=>Zmb k x)
def Zmb.cok (k:Nat):=cX (cC (Zcj.ok k) (cC (Zrd.ok k) (cC (slices_Delete_int.ok k) cN)))
def Zmb.l0.s (k:Nat):Summ:=lp 76 { tmps:=[(4,.one (.ptr 2 0)),(17,.one (.v (.int .i64))),(18,.one (.v (.int .i64)))],slots:=[(2,.box 221 [.own 3]),(3,.arr false 3 (.int .i64))],nb:=4 } [(.exit 0,{ tmps:=[],slots:=[(2,.box 221 [.own 4]),(4,.arr false 3 (.int .i64))],nb:=5 })] (fun j x=>Zmb.l0 j x.1 x.2.1 x.2.2) k
def Zmb.l0.ok (k:Nat):=(lA (Zmb.cok k):Zj Tryz.prog _ (.loop (cO (cO (cR (cL (cR (cR (cR (cB Tryz.f110))))))))) (Zmb.l0.s k))
def Zmb.l1.s (k:Nat):Summ:=lp 76 { tmps:=[(3,.one (.ptr 0 0)),(4,.one (.ptr 2 0)),(6,.one (.ptr 6 0)),(7,.one (.own 7))],slots:=[(0,.box 31 [.v (.sl T52)]),(2,.box 221 [.own 8]),(6,.box 222 [.own 9]),(7,.arr false 139 Z4b),(8,.arr false 3 (.int .i64)),(9,.arr false 1000222 (.int .i64))],nb:=10 } [(.exit 2,{ tmps:=[(7,.one (.own 10))],slots:=[(0,.box 31 [.v (.sl T52)]),(2,.box 221 [.own 11]),(6,.box 222 [.own 12]),(10,.arr false 139 Z4b),(11,.arr false 3 (.int .i64)),(12,.arr false 1000222 (.int .i64))],nb:=13 })] (fun j x=>Zmb.l1 k j x.1 x.2.1 x.2.2.1 x.2.2.2) k
def Zmb.l1.ok (k:Nat):=(lA (Zmb.cok k):Zj Tryz.prog _ (.loop (cO (cO (cL (cR (cR (cR (cR (cR (cR (cB Tryz.f110))))))))))) (Zmb.l1.s k))
theorem Zmb.ok (k:Nat):Zf Tryz.prog 110 (Zmb.con k):=fP (.two .auto (.two .auto (.two .auto (.two (.two .auto (.one (.sum (Zmb.l0.s k)))) (.two .auto (.two .auto (.two (.one (.sum (Zmb.l1.s k))) .auto))))))) (Zmb.cok k) Tryz.func110 (sC (Zmb.l0.ok k) (sC (Zmb.l1.ok k) sN))
end Go.Proofs.Qz
namespace Go.Proofs.Qz
open Go Go.RowKit
set_option linter.unusedVariables false
set_option linter.defProp false
def Zee.l0:Nat→Int→List Zad→Int→Int→Option (Int)
 | 0,_,_,_,_=>none
 | j+1,a1,a2,a3,a4=>
  bif decide (a4<a3) then
   Ya (at? a2 a4) fun v5=>
   let e6:=Yb .i64 (a4+1)
   bif v5.1==1 then
    Zee.l0 j (Yb .i64 (a1+1)) a2 a3 e6
   else
   Zee.l0 j a1 a2 a3 e6
  else
  some a1
def Zee (k:Nat) (a1:List Zad):Option (Int):=
 Ya (Zee.l0 k 0 a1 ((a1.length):Int) 0) fun y2=>
 some y2
def Zee.con (k:Nat):Con:=Sig.con { ps:=[.val false (.sl Z4b) (ros (.sl Z4b))],rs:=[.val false [.v (.int .i64)]],ntmps:=19 } (fun x=>Zee k x)
def Zee.cok (k:Nat):=cX cN
def Zee.l0.s (k:Nat):Summ:=lp 19 { tmps:=[(3,.one (.v (.int .i64))),(6,.one (.bor Z4b)),(7,.one (.v (.int .i64))),(8,.one (.v (.int .i64)))],slots:=[],nb:=0 } [(.exit 0,{ tmps:=[(3,.one (.v (.int .i64)))],slots:=[],nb:=0 })] (fun j x=>Zee.l0 j x.1 x.2.1 x.2.2.1 x.2.2.2) k
def Zee.l0.ok (k:Nat):=(lA (Zee.cok k):Zj Tryz.prog _ (.loop (cO (cO (cR (cL (cR (cR (cB Tryz.f111)))))))) (Zee.l0.s k))
theorem Zee.ok (k:Nat):Zf Tryz.prog 111 (Zee.con k):=fP (.two .auto (.two .auto (.two (.two .auto (.one (.sum (Zee.l0.s k)))) .auto))) (Zee.cok k) Tryz.func111 (sC (Zee.l0.ok k) sN)
def Zhl (a1:List Zad):Option (Int):=
 some ((a1.length):Int)
def Zhl.con (k:Nat):Con:=Sig.con { ps:=[.val false (.sl Z4b) (ros (.sl Z4b))],rs:=[.val false [.v (.int .i64)]],ntmps:=5 } (fun x=>Zhl x)
theorem Zhl.ok (k:Nat):Zf Tryz.prog 112 (Zhl.con k):=fA (cX cN) Tryz.func112
def Znn (k:Nat) (a1:G28):Option (Bool):=
 Ya (Znh k a1) fun v2=>
 bif !v2.2.2.2.2.2.2.2.2 then
  some false
 else
 Ya (Zud k a1) fun v3=>
 Ya (Z9o k v3) fun v4=>
 bif !v4 then
  some false
 else
 bif (v2.1==1)||(v2.1==2) then
  some true
 else
 Ya (Z7c k a1 (v2.1,(v2.2.1,(v2.2.2.1,(v2.2.2.2.1,(v2.2.2.2.2.1,(v2.2.2.2.2.2.1,(v2.2.2.2.2.2.2.1,v2.2.2.2.2.2.2.2.1)))))))) fun v5=>
 Ya (Zcd k v5 a1.1) fun v6=>
 bif v6 != 0 then
  some false
 else
 Ya (Zmb k v5) fun v7=>
 Ya (Zee k v7) fun v8=>
 bif decide (v8≤v2.2.2.2.1) then
  Ya (Zhl v7) fun v9=>
  some (decide (v2.2.2.2.2.1≤v9))
 else
 some false
def Znn.con (k:Nat):Con:=Sig.con { ps:=[.val true T28 (ros T28)],rs:=[.val false [.v .bool]],ntmps:=50 } (fun x=>Znn k x)
theorem Znn.ok (k:Nat):Zf Tryz.prog 56 (Znn.con k):=fA (cXr true false (cC (Z9o.ok k) (cC (Zud.ok k) (cC (Znh.ok k) (cC (Z7c.ok k) (cC (Zcd.ok k) (cC (Zmb.ok k) (cC (Zee.ok k) (cC (Zhl.ok k) cN))))))))) Tryz.func56
def Z7o (a1:G54):Option (Bool):=
 let e2:=(a1.2.2.2.2.1==0)&&((a1.2.2.2.2.2.1==0)&&((a1.2.2.2.2.2.2.1==0)&&(a1.2.2.2.2.2.2.2==[])))
 bif a1.1==1 then
  Ya (Zhb a1.2.1 1 20) fun v3=>
  Ya (Zhb a1.2.2.1 0 4) fun v4=>
  Ya (Zhb a1.1 1 11) fun v5=>
  some ((((v5&&v3)&&v4)&&(((a1.2.2.2.1.length):Int)==32))&&e2)
 else
 let e6:=a1.2.1==0
 let e7:=a1.2.2.1==0
 let e8:=a1.2.2.2.1==[]
 bif a1.1==2 then
  Ya (Znc a1.2.2.2.2 8) fun v9=>
  Ya (Zhb a1.1 1 11) fun v10=>
  some ((((v10&&e6)&&e7)&&e8)&&v9)
 else
 bif a1.1==9 then
  Ya (Zhb a1.2.1 1 24) fun v11=>
  Ya (Zhb a1.1 1 11) fun v12=>
  some ((((v12&&v11)&&e7)&&e8)&&e2)
 else
 bif a1.1==7 then
  Ya (Zii a1.2.1) fun v13=>
  Ya (Zhb a1.1 1 11) fun v14=>
  some ((((v14&&v13)&&e7)&&e8)&&e2)
 else
 Ya (Zhb a1.1 1 11) fun v15=>
 some ((((v15&&e6)&&e7)&&e8)&&e2)
def Z7o.con (k:Nat):Con:=Sig.con { ps:=[.val true T54 (ros T54)],rs:=[.val false [.v .bool]],ntmps:=64 } (fun x=>Z7o x)
theorem Z7o.ok (k:Nat):Zf Tryz.prog 60 (Z7o.con k):=fA (cX (cC (Zhb.ok k) (cC (Znc.ok k) (cC (Zii.ok k) cN)))) Tryz.func60
def Z4h (a:List Str):Option (List Str):=Ya (Zt 16 [] a) fun y=>some y
def Z4h.sig:Sig:={ ps:=[.val false (.sl .str) (ros (.sl .str))],rs:=[.val false [.own 9 .str]],ntmps:=8 }
def Z4h.con (k:Nat):Con:=Z4h.sig.con (fun x=>Z4h x)
theorem Z4h.ok (k:Nat):Zf Tryz.prog 205 (Z4h.con k):=
 Zxx (e:=9) (C:={ ti:=TAB,con:=Zel [] }) (s:=Z4h.sig) (G:=fun x=>Z4h x) (Zws Zps trivial) Tryz.func205 (by kernel_rfl) rfl (by kernel_rfl) (by kernel_rfl) (by kernel_rfl) rfl rfl rfl rfl rfl rfl (by kernel_rfl) (by kernel_rfl)
  (fun x=>⟨_,_,.inl rfl⟩) (fun x y h=>Eq.trans (b:=Z4h x) (by kernel_rfl) h) (fun x y h hl=>by
   have e:x=([]:List Str):=hl .str x (.inl (by kernel_rfl))
   subst e
   exact Eq.trans (b:=Z4h []) (by kernel_rfl) h)
def Znf.l0:Nat→Str→Int→Int→List Int→Option ((List Int))
 | 0,_,_,_,_=>none
 | j+1,a1,a2,a3,a4=>
  bif decide (a3<a2) then
   Ya (at? a4 a3) fun v5=>
   Ya (at? a4 a3) fun v6=>
   Ya (at? a1 a3) fun v7=>
   Ya (at? a4 a3) fun v8=>
   Ya (at? a4 a3) fun v9=>
   Znf.l0 j a1 a2 (Yb .i64 (a3+1)) (Yd a4 (Yc a3) (intBits .xor .u8 v6 (v7.toNat:Int)))
  else
  some a4
def Znf (k:Nat) (a1:Str) (a2:Str):Option (Str):=
 Ya (Zkw (a1.length) 1) fun v3=>
 Ya (Znf.l0 k a2 (((Zgb a1).length):Int) 0 (Zgb a1)) fun y4=>
 some (Znb y4)
def Znf.con (k:Nat):Con:=Sig.con { ps:=[.val false .str (ros .str),.val false .str (ros .str)],rs:=[.val false [.v .str]],ntmps:=26 } (fun x=>Znf k x.1 x.2)
def Znf.cok (k:Nat):=cX cN
def Znf.l0.s (k:Nat):Summ:=lp 26 { tmps:=[(1,.one (.v .str)),(5,.one (.own 1)),(10,.one (.v (.int .i64))),(11,.one (.v (.int .i64)))],slots:=[(1,.arr true 5 (.int .u8))],nb:=2 } [(.exit 0,{ tmps:=[(5,.one (.own 2))],slots:=[(2,.arr true 5 (.int .u8))],nb:=3 })] (fun j x=>Znf.l0 j x.1 x.2.1 x.2.2.1 x.2.2.2) k
def Znf.l0.ok (k:Nat):=(lA (Znf.cok k):Zj Tryz.prog _ (.loop (cO (cO (cR (cL (cR (cR (cB Tryz.f264)))))))) (Znf.l0.s k))
theorem Znf.ok (k:Nat):Zf Tryz.prog 264 (Znf.con k):=fP (.two .auto (.two .auto (.two (.two .auto (.one (.sum (Znf.l0.s k)))) .auto))) (Znf.cok k) Tryz.func264 (sC (Znf.l0.ok k) sN)
def Zkm (k:Nat) (a1:G52) (a2:Str):Option (Str):=
 bif a1.1==1 then
  some ([0,0,0,0,0,0,0,0]:Str)
 else
 bif a1.1==2 then
  some a1.2.2.2
 else
 bif a1.1==3 then
  some a2
 else
 Ya (Znf k a2 a1.2.2.2) fun v3=>
 some v3
def Zkm.con (k:Nat):Con:=Sig.con { ps:=[.val true T52 (ros T52),.val false .str (ros .str)],rs:=[.val false [.v .str]],ntmps:=20 } (fun x=>Zkm k x.1 x.2)
theorem Zkm.ok (k:Nat):Zf Tryz.prog 206 (Zkm.con k):=fA (cX (cC (Znf.ok k) cN)) Tryz.func206
def Zqe.l0 (k:Nat):Nat→List Str→List G52→Int→Int→List Str→Option ((List Str))
 | 0,_,_,_,_,_=>none
 | j+1,a1,a2,a3,a4,a5=>
  bif decide (a4<a3) then
   Ya (at? a2 a4) fun v6=>
   Ya (at? a1 v6.2.2.1) fun v7=>
   Ya (Zkm k v6 v7) fun v8=>
   let e9:=at? a5 v6.2.1
   Ya (e9) fun v10=>
   Ya (e9) fun v11=>
   Zqe.l0 k j a1 a2 a3 (Yb .i64 (a4+1)) (Yd a5 (Yc v6.2.1) v8)
  else
  some a5
def Zqe (k:Nat) (a1:List Str) (a2:List G52):Option (List Str):=
 Ya (Z4h a1) fun v3=>
 Ya (Zcj k a2) fun v4=>
 Ya (Zqe.l0 k k a1 v4 ((v4.length):Int) 0 v3) fun y5=>
 some y5
def Zqe.con (k:Nat):Con:=Sig.con { ps:=[.val false (.sl .str) (ros (.sl .str)),.val false (.sl T52) (ros (.sl T52))],rs:=[.val false [.own 9 .str]],ntmps:=30 } (fun x=>Zqe k x.1 x.2)
def Zqe.cok (k:Nat):=cX (cC (Zcj.ok k) (cC (Z4h.ok k) (cC (Zkm.ok k) cN)))
def Zqe.l0.s (k:Nat):Summ:=lp 30 { tmps:=[(0,.one (.bor .str)),(5,.one (.own 1)),(11,.one (.v (.sl T52))),(12,.one (.v (.int .i64))),(13,.one (.v (.int .i64)))],slots:=[(1,.arr false 9 .str)],nb:=2 } [(.exit 0,{ tmps:=[(5,.one (.own 2))],slots:=[(2,.arr false 9 .str)],nb:=3 })] (fun j x=>Zqe.l0 k j x.1 x.2.1 x.2.2.1 x.2.2.2.1 x.2.2.2.2) k
def Zqe.l0.ok (k:Nat):=(lA (Zqe.cok k):Zj Tryz.prog _ (.loop (cO (cO (cR (cL (cR (cR (cB Tryz.f113)))))))) (Zqe.l0.s k))
theorem Zqe.ok (k:Nat):Zf Tryz.prog 113 (Zqe.con k):=fP (.two .auto (.two .auto (.two (.two .auto (.one (.sum (Zqe.l0.s k)))) .auto))) (Zqe.cok k) Tryz.func113 (sC (Zqe.l0.ok k) sN)
def Z1o (a1:Zad) (a2:Int):Option (Bool):=
 some ((a1.1==2)&&(a1.2.2.1==a2))
def Z1o.con (k:Nat):Con:=Sig.con { ps:=[.val true Z4b (ros Z4b),.rptr (.int .i64)],rs:=[.val false [.v .bool]],ntmps:=13 } (fun x=>Z1o x.1 x.2)
theorem Z1o.ok (k:Nat):Zf Tryz.prog 116 (Z1o.con k):=fA (cX cN) Tryz.func116
def Zyd.l0:Nat→List Zad→Int→Int→Int→Option (Int ⊕ (Int×Int))
 | 0,_,_,_,_=>none
 | j+1,a1,a2,a3,a4=>
  bif decide (a3<a2) then
   Ya (at? a1 a3) fun v5=>
   Ya (Z1o v5 a4) fun v6=>
   bif v6 then
    some (.inr (a3,a4))
   else
   Zyd.l0 j a1 a2 (Yb .i64 (a3+1)) a4
  else
  some (.inl a4)
def Zyd (k:Nat) (a1:List Zad) (a2:Int):Option (Int×Int):=
 Ya (Zyd.l0 k a1 ((a1.length):Int) 0 a2) fun
  | .inl y3=>
   some ((-1),y3)
  | .inr y4=>
   some (y4.1,y4.2)
def Zyd.con (k:Nat):Con:=Sig.con { ps:=[.val false (.sl Z4b) (ros (.sl Z4b)),.fn 116 [(2,(.int .i64),(Z7g (.int .i64)))]],rs:=[.val false [.v (.int .i64)]],ntmps:=19 } (fun x=>Zyd k x.1 x.2)
def Zyd.cok (k:Nat):=cX (cC (Z1o.ok k) cN)
def Zyd.l0.s (k:Nat):Summ:=lp 19 { tmps:=[(0,.one (.bor Z4b)),(1,.fn 116 [.ptr 0 0]),(7,.one (.v (.int .i64))),(8,.one (.v (.int .i64)))],slots:=[(0,.box 2 [.v (.int .i64)])],nb:=1 } [(.exit 0,{ tmps:=[],slots:=[(0,.box 2 [.v (.int .i64)])],nb:=1 }),(.ret,{ tmps:=[(4,.one (.v (.int .i64)))],slots:=[(0,.box 2 [.v (.int .i64)])],nb:=1 })] (fun j x=>Zyd.l0 j x.1 x.2.1 x.2.2.1 x.2.2.2) k
def Zyd.l0.ok (k:Nat):=(lA (Zyd.cok k):Zj Tryz.prog _ (.loop (cO (cO (cR (cL (cR (cB Tryz.f207))))))) (Zyd.l0.s k))
theorem Zyd.ok (k:Nat):Zf Tryz.prog 207 (Zyd.con k):=fP (.two .auto (.two (.two .auto (.one (.sum (Zyd.l0.s k)))) .auto)) (Zyd.cok k) Tryz.func207 (sC (Zyd.l0.ok k) sN)
def Zbq (k:Nat) (a1:List Zad) (a2:Int):Option (Bool×Int):=
 Ya (Zyd k a1 a2) fun v3=>
 some (decide (0≤v3.1),v3.2)
def Zbq.con (k:Nat):Con:=Sig.con { ps:=[.val false (.sl Z4b) (ros (.sl Z4b)),.fn 116 [(2,(.int .i64),(Z7g (.int .i64)))]],rs:=[.val false [.v .bool]],ntmps:=9 } (fun x=>Zbq k x.1 x.2)
theorem Zbq.ok (k:Nat):Zf Tryz.prog 115 (Zbq.con k):=fA (cX (cC (Zyd.ok k) cN)) Tryz.func115
def Z0o (k:Nat) (a1:Int) (a2:List Zad) (a3:G46):Option (Bool):=
 Ya (Z9b a2 0 a3.2.2.2.2.1) fun v4=>
 Ya (Zbq k v4 a1) fun v5=>
 some v5.1
def Z0o.con (k:Nat):Con:=Sig.con { ps:=[.val false (.int .i64) (ros (.int .i64)),.rptr (.sl Z4b),.rptr T46],rs:=[.val false [.v .bool]],ntmps:=11 } (fun x=>Z0o k x.1 x.2.1 x.2.2)
theorem Z0o.ok (k:Nat):Zf Tryz.prog 114 (Z0o.con k):=fA (cX (cC (Zbq.ok k) cN)) Tryz.func114
def Zpd.l0:Nat→Int→List Zad→Int→Int→Option (Unit ⊕ Int)
 | 0,_,_,_,_=>none
 | j+1,a1,a2,a3,a4=>
  bif decide (a4<a3) then
   Ya (at? a2 a4) fun v5=>
   bif (v5.1==1)&&(v5.2.2.1==a1) then
    some (.inr (v5.2.2.2))
   else
   Zpd.l0 j a1 a2 a3 (Yb .i64 (a4+1))
  else
  some (.inl ())
def Zpd (k:Nat) (a1:List Zad) (a2:Int) (a3:Int):Option (Int):=
 Ya (Z9b a1 0 a2) fun v4=>
 Ya (Zpd.l0 k a3 v4 ((v4.length):Int) 0) fun
  | .inl y5=>
   some (-1)
  | .inr y6=>
   some y6
def Zpd.con (k:Nat):Con:=Sig.con { ps:=[.val false (.sl Z4b) (ros (.sl Z4b)),.val false (.int .i64) (ros (.int .i64)),.val false (.int .i64) (ros (.int .i64))],rs:=[.val false [.v (.int .i64)]],ntmps:=29 } (fun x=>Zpd k x.1 x.2.1 x.2.2)
def Zpd.cok (k:Nat):=cX cN
def Zpd.l0.s (k:Nat):Summ:=lp 29 { tmps:=[(2,.one (.v (.int .i64))),(11,.one (.bor Z4b)),(12,.one (.v (.int .i64))),(13,.one (.v (.int .i64)))],slots:=[],nb:=0 } [(.exit 0,{ tmps:=[],slots:=[],nb:=0 }),(.ret,{ tmps:=[(6,.one (.v (.int .i64)))],slots:=[],nb:=0 })] (fun j x=>Zpd.l0 j x.1 x.2.1 x.2.2.1 x.2.2.2) k
def Zpd.l0.ok (k:Nat):=(lA (Zpd.cok k):Zj Tryz.prog _ (.loop (cO (cO (cR (cL (cR (cB Tryz.f211))))))) (Zpd.l0.s k))
theorem Zpd.ok (k:Nat):Zf Tryz.prog 211 (Zpd.con k):=fP (.two .auto (.two (.two .auto (.one (.sum (Zpd.l0.s k)))) .auto)) (Zpd.cok k) Tryz.func211 (sC (Zpd.l0.ok k) sN)
def Z7f.j0 (k:Nat) (a1:List Zad) (a2:Int) (a3:List Str) (a4:List Zr) (a5:Int) (a6:Int) (a7:Int) (a8:Int) (a9:Int) (a10:Str) (a11:List Int) (a12:List Int) (a13:Str) (a14:Int) (a15:Int) (a16:Int) (a17:Str):Option ((Str×Int×Int×Int×Str)):=
 bif (a14==3)||(a14==4) then
  Ya (Z6f k (a3,a4) (Yb .i64 (3+a16))) fun v18=>
  Ya (Zpd k a1 a9 a16) fun v19=>
  bif decide (0≤v19) then
   Ya (at? a12 v19) fun v20=>
   Ya (Z8i k (a2,(a3,a4)) v20) fun v21=>
   some (v21,a14,a15,a16,a17)
  else
  some (v18,a14,a15,a16,a17)
 else
 some (a13,a14,a15,a16,a17)
def Z7f (k:Nat) (a1:G28) (a2:G46) (a3:List Zad) (a4:G52):Option (Str):=
 Ya (Z7f.j0 k a3 a1.1 a1.2.1 a1.2.2 a2.1 a2.2.1 a2.2.2.1 a2.2.2.2.1 a2.2.2.2.2.1 a2.2.2.2.2.2.1 a2.2.2.2.2.2.2.1 a2.2.2.2.2.2.2.2 [] a4.1 a4.2.1 a4.2.2.1 a4.2.2.2) fun y5=>
 bif (y5.2.1==4)&&(((y5.1.length):Int) != 8) then
  some ([])
 else
 Ya (Zkm k y5.2 y5.1) fun v6=>
 some v6
def Z7f.con (k:Nat):Con:=Sig.con { ps:=[.val true T28 (ros T28),.val true T46 (ros T46),.val false (.sl Z4b) (ros (.sl Z4b)),.val true T52 (ros T52)],rs:=[.val false [.v .str]],ntmps:=51 } (fun x=>Z7f k x.1 x.2.1 x.2.2.1 x.2.2.2)
def Z7f.cok (k:Nat):=cXr true false (cC (Z6f.ok k) (cC (Z8i.ok k) (cC (Zkm.ok k) (cC (Zpd.ok k) cN))))
def Z7f.j0.s (k:Nat):Summ:=lq 51 { tmps:=[(2,.one (.bor Z4b)),(4,.eptr [.v (.int .i64),.bor .str,.bor Zp]),(5,.eptr [.v (.int .i64),.v (.int .i64),.v (.int .i64),.v (.int .i64),.v (.int .i64),.v .str,.bor (.int .i64),.bor (.int .i64)]),(7,.one (.ptr 0 0)),(9,.one (.v .str))],slots:=[(0,.box 52 [.v (.int .i64),.v (.int .i64),.v (.int .i64),.v .str])],nb:=1 } [(.nrm,{ tmps:=[(9,.one (.v .str))],slots:=[(0,.box 52 [.v (.int .i64),.v (.int .i64),.v (.int .i64),.v .str])],nb:=1 })] (fun x=>Z7f.j0 k x.1 x.2.1 x.2.2.1 x.2.2.2.1 x.2.2.2.2.1 x.2.2.2.2.2.1 x.2.2.2.2.2.2.1 x.2.2.2.2.2.2.2.1 x.2.2.2.2.2.2.2.2.1 x.2.2.2.2.2.2.2.2.2.1 x.2.2.2.2.2.2.2.2.2.2.1 x.2.2.2.2.2.2.2.2.2.2.2.1 x.2.2.2.2.2.2.2.2.2.2.2.2.1 x.2.2.2.2.2.2.2.2.2.2.2.2.2.1 x.2.2.2.2.2.2.2.2.2.2.2.2.2.2.1 x.2.2.2.2.2.2.2.2.2.2.2.2.2.2.2.1 x.2.2.2.2.2.2.2.2.2.2.2.2.2.2.2.2)
def Z7f.j0.ok (k:Nat):=(jA (Z7f.cok k):Zj Tryz.prog _ (cL (cR (cR (cB Tryz.f118)))) (Z7f.j0.s k))
theorem Z7f.ok (k:Nat):Zf Tryz.prog 118 (Z7f.con k):=fP (.two .auto (.two .auto (.two (.sum (Z7f.j0.s k)) .auto))) (Z7f.cok k) Tryz.func118 (sC (Z7f.j0.ok k) sN)
def Zoe.l0 (k:Nat):Nat→Int→List Str→List Zr→List G52→Int→Int→Int→Int→Int→Int→Int→Str→List Str→List Int→List Int→List Zad→Option ((Int×Int×Int×Int×Int×Str×List Str×List Int×List Int×List Zad))
 | 0,_,_,_,_,_,_,_,_,_,_,_,_,_,_,_,_=>none
 | j+1,a1,a2,a3,a4,a5,a6,a7,a8,a9,a10,a11,a12,a13,a14,a15,a16=>
  bif decide (a6<a5) then
   Ya (at? a4 a6) fun v17=>
   let e18:=(a7,(a8,(a9,(a10,(a11,(a12,(a14,a15)))))))
   Ya (Z0o k v17.2.1 a16 e18) fun v19=>
   let e20:=Yb .i64 (a6+1)
   bif !v19 then
    Ya (Z7f k (a1,(a2,a3)) e18 a16 v17) fun v21=>
    let e22:=at? a13 v17.2.1
    Ya (e22) fun v23=>
    Ya (e22) fun v24=>
    Zoe.l0 k j a1 a2 a3 a4 a5 e20 a7 a8 a9 a10 a11 a12 (Yd a13 (Yc v17.2.1) v21) a14 a15 a16
   else
   Zoe.l0 k j a1 a2 a3 a4 a5 e20 a7 a8 a9 a10 a11 a12 a13 a14 a15 a16
  else
  some (a7,a8,a9,a10,a11,a12,a13,a14,a15,a16)
def Zoe (k:Nat) (a1:G28):Option (List Str):=
 Ya (Znh k a1) fun v2=>
 Ya (Zud k a1) fun v3=>
 Ya (Z7c k a1 (v2.1,(v2.2.1,(v2.2.2.1,(v2.2.2.2.1,(v2.2.2.2.2.1,(v2.2.2.2.2.2.1,(v2.2.2.2.2.2.2.1,v2.2.2.2.2.2.2.2.1)))))))) fun v4=>
 bif v2.1==4 then
  Ya (Zqe k v3 v4) fun v5=>
  some v5
 else
 bif v2.1==5 then
  Ya (Zmb k v4) fun v6=>
  Ya (Zcj k v4) fun v7=>
  Ya (Zoe.l0 k k a1.1 a1.2.1 a1.2.2 v7 ((v7.length):Int) 0 v2.1 v2.2.1 v2.2.2.1 v2.2.2.2.1 v2.2.2.2.2.1 v2.2.2.2.2.2.1 v3 v2.2.2.2.2.2.2.1 v2.2.2.2.2.2.2.2.1 v6) fun y8=>
  some y8.2.2.2.2.2.2.1
 else
 some v3
def Zoe.con (k:Nat):Con:=Sig.con { ps:=[.val true T28 (ros T28)],rs:=[.val false [.own 9 .str]],ntmps:=56 } (fun x=>Zoe k x)
def Zoe.cok (k:Nat):=cXr true false (cC (Zud.ok k) (cC (Znh.ok k) (cC (Z7c.ok k) (cC (Zmb.ok k) (cC (Zqe.ok k) (cC (Z0o.ok k) (cC (Zcj.ok k) (cC (Z7f.ok k) cN))))))))
def Zoe.l0.s (k:Nat):Summ:=lp 56 { tmps:=[(1,.eptr [.v (.int .i64),.bor .str,.bor Zp]),(3,.one (.ptr 2 0)),(5,.one (.own 7)),(7,.one (.ptr 6 0)),(8,.fn 114 [.ptr 6 0,.ptr 2 0]),(34,.one (.v (.sl T52))),(35,.one (.v (.int .i64))),(36,.one (.v (.int .i64)))],slots:=[(2,.box 46 [.v (.int .i64),.v (.int .i64),.v (.int .i64),.v (.int .i64),.v (.int .i64),.v .str,.own 8,.own 9]),(6,.box 98 [.own 10]),(7,.arr false 9 .str),(8,.arr false 2 (.int .i64)),(9,.arr false 2 (.int .i64)),(10,.arr false 139 Z4b)],nb:=11 } [(.exit 1,{ tmps:=[(5,.one (.own 11))],slots:=[(2,.box 46 [.v (.int .i64),.v (.int .i64),.v (.int .i64),.v (.int .i64),.v (.int .i64),.v .str,.own 12,.own 13]),(6,.box 98 [.own 14]),(11,.arr false 9 .str),(12,.arr false 2 (.int .i64)),(13,.arr false 2 (.int .i64)),(14,.arr false 139 Z4b)],nb:=15 })] (fun j x=>Zoe.l0 k j x.1 x.2.1 x.2.2.1 x.2.2.2.1 x.2.2.2.2.1 x.2.2.2.2.2.1 x.2.2.2.2.2.2.1 x.2.2.2.2.2.2.2.1 x.2.2.2.2.2.2.2.2.1 x.2.2.2.2.2.2.2.2.2.1 x.2.2.2.2.2.2.2.2.2.2.1 x.2.2.2.2.2.2.2.2.2.2.2.1 x.2.2.2.2.2.2.2.2.2.2.2.2.1 x.2.2.2.2.2.2.2.2.2.2.2.2.2.1 x.2.2.2.2.2.2.2.2.2.2.2.2.2.2.1 x.2.2.2.2.2.2.2.2.2.2.2.2.2.2.2) k
def Zoe.l0.ok (k:Nat):=(lA (Zoe.cok k):Zj Tryz.prog _ (.loop (cO (cO (cR (cR (cR (cL (cR (cR (cR (cO (cR (cL (cR (cR (cR (cB Tryz.f57))))))))))))))))) (Zoe.l0.s k))
theorem Zoe.ok (k:Nat):Zf Tryz.prog 57 (Zoe.con k):=fP (.two .auto (.two .auto (.two .auto (.two (.two .auto (.one (.two .auto (.two .auto (.two .auto (.two (.two .auto (.two .auto (.two .auto (.one (.sum (Zoe.l0.s k)))))) .auto)))))) .auto)))) (Zoe.cok k) Tryz.func57 (sC (Zoe.l0.ok k) sN)
def Zec.j0 (a1:Int) (a2:Int):Option (Int):=
 bif decide (a1<0) then
  some (intBits .xor .u64 (Ye .u64) a2)
 else
 some a2
def Zec.l1:Nat→Int→List Int→Option ((Int×List Int))
 | 0,_,_=>none
 | j+1,a1,a2=>
  bif decide (127<a1) then
   Ya (Zt 1 a2 [(intBits .or .u8 (Yb .u8 a1) 128)]) fun v3=>
   Ya (Zvb 7) fun v4=>
   Zec.l1 j (shr .u64 a1 7) v3
  else
  some (a1,a2)
def Zec (k:Nat) (a1:Int):Option (Str):=
 Ya (Zvb 1) fun v2=>
 Ya (Zec.j0 a1 (shl .u64 (Yb .u64 a1) 1)) fun y3=>
 Ya (Zec.l1 k y3 []) fun y4=>
 Ya (Zt 1 y4.2 [(Yb .u8 y4.1)]) fun v5=>
 some (Znb v5)
def Zec.con (k:Nat):Con:=Sig.con { ps:=[.val false (.int .i64) (ros (.int .i64))],rs:=[.val false [.v .str]],ntmps:=28 } (fun x=>Zec k x)
def Zec.cok (k:Nat):=cX cN
def Zec.j0.s (k:Nat):Summ:=lq 28 { tmps:=[(0,.one (.v (.int .i64))),(3,.one (.v (.int .u64)))],slots:=[],nb:=0 } [(.nrm,{ tmps:=[(3,.one (.v (.int .u64)))],slots:=[],nb:=0 })] (fun x=>Zec.j0 x.1 x.2)
def Zec.j0.ok (k:Nat):=(jA (Zec.cok k):Zj Tryz.prog _ (cL (cR (cR (cB Tryz.f255)))) (Zec.j0.s k))
def Zec.l1.s (k:Nat):Summ:=lp 28 { tmps:=[(3,.one (.v (.int .u64))),(4,.one (.own 0))],slots:=[(0,.arr false 5 (.int .u8))],nb:=1 } [(.exit 0,{ tmps:=[(3,.one (.v (.int .u64))),(4,.one (.own 1))],slots:=[(1,.arr false 5 (.int .u8))],nb:=2 })] (fun j x=>Zec.l1 j x.1 x.2) k
def Zec.l1.ok (k:Nat):=(lA (Zec.cok k):Zj Tryz.prog _ (.loop (cO (cO (cL (cR (cR (cR (cR (cB Tryz.f255))))))))) (Zec.l1.s k))
theorem Zec.ok (k:Nat):Zf Tryz.prog 255 (Zec.con k):=fP (.two .auto (.two .auto (.two (.sum (Zec.j0.s k)) (.two .auto (.two (.one (.sum (Zec.l1.s k))) .auto))))) (Zec.cok k) Tryz.func255 (sC (Zec.j0.ok k) (sC (Zec.l1.ok k) sN))
def Z9i (k:Nat) (a1:Str):Option (Str):=
 Ya (Zec k ((a1.length):Int)) fun v2=>
 Ya (Zpc v2 a1) fun v3=>
 some v3
def Z9i.con (k:Nat):Con:=Sig.con { ps:=[.val false .str (ros .str)],rs:=[.val false [.v .str]],ntmps:=8 } (fun x=>Z9i k x)
theorem Z9i.ok (k:Nat):Zf Tryz.prog 187 (Z9i.con k):=fA (cX (cC (Zec.ok k) cN)) Tryz.func187
def Zon (k:Nat) (a1:Int) (a2:Str):Option (Str):=
 Ya (Zec k a1) fun v3=>
 Ya (Z9i k a2) fun v4=>
 Ya (Zpc v3 v4) fun v5=>
 Ya (Zaj k v5) fun v6=>
 some v6
def Zon.con (k:Nat):Con:=Sig.con { ps:=[.val false (.int .i64) (ros (.int .i64)),.val false .str (ros .str)],rs:=[.val false [.v .str]],ntmps:=11 } (fun x=>Zon k x.1 x.2)
theorem Zon.ok (k:Nat):Zf Tryz.prog 185 (Zon.con k):=fA (cX (cC (Z9i.ok k) (cC (Zaj.ok k) (cC (Zec.ok k) cN)))) Tryz.func185
def Zcp (k:Nat) (a1:G26) (a2:Str):Option (List Z5c):=
 Ya (Zzc k a1) fun v3=>
 let e4:=Yb .i64 (v3.1+1)
 bif decide (1000000<e4) then
  some ([])
 else
 let e5:=(true,(0,[]))
 bif v3.2.2.2==0 then
  Ya (Zon k e4 a2) fun v6=>
  some ([(false,(1,v6)),e5])
 else
 Ya (Zon k e4 a2) fun v7=>
 some ([(false,(0,v7)),e5])
def Zcp.con (k:Nat):Con:=Sig.con { ps:=[.val true T26 (ros T26),.val false .str (ros .str)],rs:=[.val false [.own 151 Zjc]],ntmps:=28 } (fun x=>Zcp k x.1 x.2)
theorem Zcp.ok (k:Nat):Zf Tryz.prog 96 (Zcp.con k):=fA (cXr true false (cC (Zzc.ok k) (cC (Zon.ok k) cN))) Tryz.func96
def Zwd.l0 (k:Nat):Nat→Str→List Int→Int→Int→Option (Str)
 | 0,_,_,_,_=>none
 | j+1,a1,a2,a3,a4=>
  bif decide (a4<a3) then
   Ya (at? a2 a4) fun v5=>
   Ya (Zec k v5) fun v6=>
   Ya (Zpc a1 v6) fun v7=>
   Zwd.l0 k j v7 a2 a3 (Yb .i64 (a4+1))
  else
  some a1
def Zwd (k:Nat) (a1:List Int):Option (Str):=
 Ya (Zwd.l0 k k [] a1 ((a1.length):Int) 0) fun y2=>
 some y2
def Zwd.con (k:Nat):Con:=Sig.con { ps:=[.val false (.sl (.int .i64)) (ros (.sl (.int .i64)))],rs:=[.val false [.v .str]],ntmps:=18 } (fun x=>Zwd k x)
def Zwd.cok (k:Nat):=cX (cC (Zec.ok k) cN)
def Zwd.l0.s (k:Nat):Summ:=lp 18 { tmps:=[(3,.one (.v .str)),(6,.one (.bor (.int .i64))),(7,.one (.v (.int .i64))),(8,.one (.v (.int .i64)))],slots:=[],nb:=0 } [(.exit 0,{ tmps:=[(3,.one (.v .str))],slots:=[],nb:=0 })] (fun j x=>Zwd.l0 k j x.1 x.2.1 x.2.2.1 x.2.2.2) k
def Zwd.l0.ok (k:Nat):=(lA (Zwd.cok k):Zj Tryz.prog _ (.loop (cO (cO (cR (cL (cR (cR (cB Tryz.f186)))))))) (Zwd.l0.s k))
theorem Zwd.ok (k:Nat):Zf Tryz.prog 186 (Zwd.con k):=fP (.two .auto (.two .auto (.two (.two .auto (.one (.sum (Zwd.l0.s k)))) .auto))) (Zwd.cok k) Tryz.func186 (sC (Zwd.l0.ok k) sN)
def Zpn (k:Nat) (a1:G46):Option (Str):=
 Ya (Zlc k a1.2.2.2.2.2.2.1) fun v2=>
 Ya (Zlc k a1.2.2.2.2.2.2.2) fun v3=>
 Ya (Zwd k [a1.1,a1.2.1,a1.2.2.1,a1.2.2.2.1,a1.2.2.2.2.1,v2,v3]) fun v4=>
 Ya (Z9i k a1.2.2.2.2.2.1) fun v5=>
 Ya (Zpc v4 v5) fun v6=>
 some v6
def Zpn.con (k:Nat):Con:=Sig.con { ps:=[.val true T46 (ros T46)],rs:=[.val false [.v .str]],ntmps:=25 } (fun x=>Zpn k x)
theorem Zpn.ok (k:Nat):Zf Tryz.prog 97 (Zpn.con k):=fA (cXr true false (cC (Zlc.ok k) (cC (Zwd.ok k) (cC (Z9i.ok k) cN)))) Tryz.func97
def Zce (k:Nat) (a1:G28) (a2:G46):Option (List Z5c):=
 Ya (Zpn k a2) fun v3=>
 Ya (Zcp k a1.2 v3) fun v4=>
 some v4
def Zce.con (k:Nat):Con:=Sig.con { ps:=[.val true T28 (ros T28),.val true T46 (ros T46)],rs:=[.val false [.own 151 Zjc]],ntmps:=10 } (fun x=>Zce k x.1 x.2)
theorem Zce.ok (k:Nat):Zf Tryz.prog 131 (Zce.con k):=fA (cXr true false (cC (Zcp.ok k) (cC (Zpn.ok k) cN))) Tryz.func131
def Zlj (a:List Int):Option (List Int):=Ya (Zt 8 [] a) fun y=>some y
def Zlj.sig:Sig:={ ps:=[.val false (.sl (.int .i64)) (ros (.sl (.int .i64)))],rs:=[.val false [.own 2 (.int .i64)]],ntmps:=8 }
def Zlj.con (k:Nat):Con:=Zlj.sig.con (fun x=>Zlj x)
theorem Zlj.ok (k:Nat):Zf Tryz.prog 221 (Zlj.con k):=
 Zxx (e:=2) (C:={ ti:=TAB,con:=Zel [] }) (s:=Zlj.sig) (G:=fun x=>Zlj x) (Zws Zps trivial) Tryz.func221 (by kernel_rfl) rfl (by kernel_rfl) (by kernel_rfl) (by kernel_rfl) rfl rfl rfl rfl rfl rfl (by kernel_rfl) (by kernel_rfl)
  (fun x=>⟨_,_,.inl rfl⟩) (fun x y h=>Eq.trans (b:=Zlj x) (by kernel_rfl) h) (fun x y h hl=>by
   have e:x=([]:List Int):=hl (.int .i64) x (.inl (by kernel_rfl))
   subst e
   exact Eq.trans (b:=Zlj []) (by kernel_rfl) h)
def Zbj (a1:G46):Option (Int×Int×Int×Int×Int×Str×List Int×List Int):=
 Ya (Zlj a1.2.2.2.2.2.2.1) fun v2=>
 some (1,0,0,0,0,[],v2,[])
def Zbj.con (k:Nat):Con:=Sig.con { ps:=[.val true T46 (ros T46)],rs:=[.val true [.v (.int .i64),.v (.int .i64),.v (.int .i64),.v (.int .i64),.v (.int .i64),.v .str,.own 2 (.int .i64),.own 2 (.int .i64)]],ntmps:=7 } (fun x=>Zbj x)
theorem Zbj.ok (k:Nat):Zf Tryz.prog 132 (Zbj.con k):=fA (cXr true false (cC (Zlj.ok k) cN)) Tryz.func132
def Zde.l0:Nat→Int→List G52→Int→Int→Option (Int)
 | 0,_,_,_,_=>none
 | j+1,a1,a2,a3,a4=>
  bif decide (a4<a3) then
   Ya (at? a2 a4) fun v5=>
   let e6:=Yb .i64 (a4+1)
   bif v5.1==5 then
    Zde.l0 j e6 a2 a3 e6
   else
   Zde.l0 j a1 a2 a3 e6
  else
  some a1
def Zde (k:Nat) (a1:List G52):Option (Int):=
 Ya (Zde.l0 k 0 a1 ((a1.length):Int) 0) fun y2=>
 some y2
def Zde.con (k:Nat):Con:=Sig.con { ps:=[.val false (.sl T52) (ros (.sl T52))],rs:=[.val false [.v (.int .i64)]],ntmps:=20 } (fun x=>Zde k x)
def Zde.cok (k:Nat):=cX cN
def Zde.l0.s (k:Nat):Summ:=lp 20 { tmps:=[(3,.one (.v (.int .i64))),(6,.one (.bor T52)),(7,.one (.v (.int .i64))),(8,.one (.v (.int .i64)))],slots:=[],nb:=0 } [(.exit 0,{ tmps:=[(3,.one (.v (.int .i64)))],slots:=[],nb:=0 })] (fun j x=>Zde.l0 j x.1 x.2.1 x.2.2.1 x.2.2.2) k
def Zde.l0.ok (k:Nat):=(lA (Zde.cok k):Zj Tryz.prog _ (.loop (cO (cO (cR (cL (cR (cR (cB Tryz.f136)))))))) (Zde.l0.s k))
theorem Zde.ok (k:Nat):Zf Tryz.prog 136 (Zde.con k):=fP (.two .auto (.two .auto (.two (.two .auto (.one (.sum (Zde.l0.s k)))) .auto))) (Zde.cok k) Tryz.func136 (sC (Zde.l0.ok k) sN)
def Zep (k:Nat) (a1:Str) (a2:Int):Option (Bool×Int×Str):=
 Ya (Zqk k a1) fun v3=>
 Ya (Zfc k (v3.1,(0,false))) fun v4=>
 Ya (Zfc k v4.2) fun v5=>
 Ya (Ztg k v5.2) fun v6=>
 bif (((v3.2 != 0)||v6.2.2.2)||(v6.2.2.1 != ((v3.1.length):Int)))||(v4.1 != a2) then
  some (true,0,[])
 else
 Ya (Zii a2) fun v7=>
 bif !v7 then
  some (true,0,[])
 else
 Ya (Zhb v5.1 0 39) fun v8=>
 bif (!v8)||(((v6.1.length):Int) != 8) then
  some (true,0,[])
 else
 some (false,v5.1,v6.1)
def Zep.con (k:Nat):Con:=Sig.con { ps:=[.val false .str (ros .str),.val false (.int .i64) (ros (.int .i64))],rs:=[.val true [.v .bool,.v (.int .i64),.v .str]],ntmps:=66 } (fun x=>Zep k x.1 x.2)
theorem Zep.ok (k:Nat):Zf Tryz.prog 146 (Zep.con k):=fA (cX (cC (Zhb.ok k) (cC (Zii.ok k) (cC (Zfc.ok k) (cC (Ztg.ok k) (cC (Zqk.ok k) cN)))))) Tryz.func146
def Zod.l0 (k:Nat):Nat→List Int→Int→Int→Int→List Str→List Zr→List Z5c→Option ((Int×List Str×List Zr×List Z5c))
 | 0,_,_,_,_,_,_,_=>none
 | j+1,a1,a2,a3,a4,a5,a6,a7=>
  bif decide (a3<a2) then
   Ya (at? a1 a3) fun v8=>
   let e9:=(a4,(a5,a6))
   Ya (Z8i k e9 v8) fun v10=>
   let e11:=Yb .i64 (a3+1)
   bif !(v10==[]) then
    Ya (Zmh e9 v8) fun v12=>
    Ya (Zt 32 a7 ([(false,(v12,[]))])) fun v13=>
    Zod.l0 k j a1 a2 e11 a4 a5 a6 v13
   else
   Zod.l0 k j a1 a2 e11 a4 a5 a6 a7
  else
  some (a4,a5,a6,a7)
def Zod (k:Nat) (a1:G28) (a2:G46):Option (List Z5c):=
 let e3:=(true,(0,[]))
 bif a2.1==2 then
  Ya (Z7c k a1 a2) fun v4=>
  Ya (Zde k v4) fun v5=>
  Ya (Z9b a2.2.2.2.2.2.2.2 (Yb .i64 (a2.2.2.2.1+v5)) ((a2.2.2.2.2.2.2.2.length):Int)) fun v6=>
  Ya (Zod.l0 k k v6 ((v6.length):Int) 0 a1.1 a1.2.1 a1.2.2 []) fun y7=>
  bif decide (0<((y7.2.2.2.length):Int)) then
   Ya (Zt 32 y7.2.2.2 [e3]) fun v8=>
   some v8
  else
  some y7.2.2.2
 else
 bif a2.1==3 then
  Ya (Zce k a1 (4,(2,a2.2.2))) fun v9=>
  some v9
 else
 bif a2.1==4 then
  bif a2.2.1==0 then
   Ya (Zbj a2) fun v10=>
   Ya (Zce k a1 v10) fun v11=>
   some v11
  else
  Ya (Zce k a1 (a2.1,((Yb .i64 (a2.2.1-1)),a2.2.2))) fun v12=>
  some v12
 else
 bif a2.1==5 then
  Ya (Z6f k a1.2 2) fun v13=>
  Ya (Zep k v13 a2.2.2.2.2.1) fun v14=>
  bif v14.1||(a2.2.2.2.2.1==40) then
   some ([])
  else
  Ya (Zjm a1.2 v14.2.1) fun v15=>
  bif !v15 then
   some ([])
  else
  Ya (Zce k a1 (a2.1,(a2.2.1,(a2.2.2.1,(a2.2.2.2.1,((Yb .i64 (a2.2.2.2.2.1+1)),a2.2.2.2.2.2)))))) fun v16=>
  Ya (Zt 32 [v14,e3] v16) fun v17=>
  some v17
 else
 some ([])
def Zod.con (k:Nat):Con:=Sig.conR { ps:=[.val true T28 (Z7g T28),.val true T46 (ros T46)],rs:=[.val false [.own 151 Zjc]],ntmps:=105 } (fun x=>Zod k x.1 x.2)
def Zod.cok (k:Nat):=cX (cC (Z7c.ok k) (cC (Z6f.ok k) (cC (Zce.ok k) (cC (Zbj.ok k) (cC (Zde.ok k) (cC (Z8i.ok k) (cC (Zmh.ok k) (cC (Zep.ok k) (cC (Zjm.ok k) cN)))))))))
def Zod.l0.s (k:Nat):Summ:=lp 105 { tmps:=[(2,.one (.ptr 0 0)),(5,.one (.own 3)),(22,.one (.bor (.int .i64))),(23,.one (.v (.int .i64))),(24,.one (.v (.int .i64)))],slots:=[(0,.box 28 [.v (.int .i64),.v (.sl .str),.v (.sl Zp)]),(3,.arr false 151 Zjc)],nb:=4 } [(.exit 1,{ tmps:=[(5,.one (.own 4))],slots:=[(0,.box 28 [.v (.int .i64),.v (.sl .str),.v (.sl Zp)]),(4,.arr false 151 Zjc)],nb:=5 })] (fun j x=>Zod.l0 k j x.1 x.2.1 x.2.2.1 x.2.2.2.1 x.2.2.2.2.1 x.2.2.2.2.2.1 x.2.2.2.2.2.2) k
def Zod.l0.ok (k:Nat):=(lA (Zod.cok k):Zj Tryz.prog _ (.loop (cO (cO (cR (cL (cR (cL (cR (cO (cR (cL (cR (cB Tryz.f64))))))))))))) (Zod.l0.s k))
theorem Zod.ok (k:Nat):Zf Tryz.prog 64 (Zod.con k):=Zn8 (fP (.two .auto (.two (.two .auto (.one (.two .auto (.two (.two .auto (.two (.two .auto (.one (.sum (Zod.l0.s k)))) .auto)) .auto)))) .auto)) (Zod.cok k) Tryz.func64 (sC (Zod.l0.ok k) sN))
def Z4o (k:Nat) (a1:List Int) (a2:List Int):Option (List Int):=
 Ya (Zlc k a1) fun v3=>
 Ya (Zlc k a2) fun v4=>
 Ya (Zgd k (intBits .andNot .i64 16777215 (intBits .or .i64 v3 v4))) fun v5=>
 some v5
def Z4o.con (k:Nat):Con:=Sig.con { ps:=[.val false (.sl (.int .i64)) (ros (.sl (.int .i64))),.val false (.sl (.int .i64)) (ros (.sl (.int .i64)))],rs:=[.val false [.own 2 (.int .i64)]],ntmps:=12 } (fun x=>Z4o k x.1 x.2)
theorem Z4o.ok (k:Nat):Zf Tryz.prog 66 (Z4o.con k):=fA (cX (cC (Zgd.ok k) (cC (Zlc.ok k) cN))) Tryz.func66
def Zpe.l0:Nat→List Int→Int→Int→List Zjk→Option ((List Zjk))
 | 0,_,_,_,_=>none
 | j+1,a1,a2,a3,a4=>
  bif decide (a3<a2) then
   Ya (at? a1 a3) fun v5=>
   let e6:=Yb .i64 (((a4.length):Int)-1)
   let e7:=Yb .i64 (a3+1)
   let e8:=Zt 16 a4 [(v5,1)]
   bif decide (0≤e6) then
    let e9:=at? a4 e6
    Ya (e9) fun v10=>
    Ya (e9) fun v11=>
    Ya (e9) fun v12=>
    Ya (e9) fun v13=>
    bif (Yb .i64 (v11.1+v13.2))==v5 then
     Ya (e9) fun v14=>
     Ya (e9) fun v15=>
     Ya (e9) fun v16=>
     Ya (e9) fun v17=>
     Zpe.l0 j a1 a2 e7 (Yd a4 (Yc e6) (v17.1,(Yb .i64 (v15.2+1))))
    else
    Ya (e8) fun v18=>
    Zpe.l0 j a1 a2 e7 v18
   else
   Ya (e8) fun v19=>
   Zpe.l0 j a1 a2 e7 v19
  else
  some a4
def Zpe (k:Nat) (a1:List Int):Option (List Zjk):=
 Ya (Zpe.l0 k a1 ((a1.length):Int) 0 []) fun y2=>
 some y2
def Zpe.con (k:Nat):Con:=Sig.con { ps:=[.val false (.sl (.int .i64)) (ros (.sl (.int .i64)))],rs:=[.val false [.own 243 Zci]],ntmps:=48 } (fun x=>Zpe k x)
def Zpe.cok (k:Nat):=cX cN
def Zpe.l0.s (k:Nat):Summ:=lp 48 { tmps:=[(3,.one (.own 0)),(7,.one (.bor (.int .i64))),(8,.one (.v (.int .i64))),(9,.one (.v (.int .i64)))],slots:=[(0,.arr false 243 Zci)],nb:=1 } [(.exit 0,{ tmps:=[(3,.one (.own 1))],slots:=[(1,.arr false 243 Zci)],nb:=2 })] (fun j x=>Zpe.l0 j x.1 x.2.1 x.2.2.1 x.2.2.2) k
def Zpe.l0.ok (k:Nat):=(lA (Zpe.cok k):Zj Tryz.prog _ (.loop (cO (cO (cR (cL (cR (cR (cB Tryz.f223)))))))) (Zpe.l0.s k))
theorem Zpe.ok (k:Nat):Zf Tryz.prog 223 (Zpe.con k):=fP (.two .auto (.two .auto (.two (.two .auto (.one (.sum (Zpe.l0.s k)))) .auto))) (Zpe.cok k) Tryz.func223 (sC (Zpe.l0.ok k) sN)
def Z1b.l0:Nat→Int→Int→Int→Int→List Int→Option ((Int×Int×List Int))
 | 0,_,_,_,_,_=>none
 | j+1,a1,a2,a3,a4,a5=>
  bif decide (a2<a1) then
   Ya (Zt 8 a5 [(Yb .i64 (a3+a2))]) fun v6=>
   Z1b.l0 j a1 (Yb .i64 (a2+1)) a3 a4 v6
  else
  some (a3,a4,a5)
def Z1b.l1 (k:Nat):Nat→Int→Int→Int→List Zjk→Option (Unit ⊕ (Bool×List Int))
 | 0,_,_,_,_=>none
 | j+1,a1,a2,a3,a4=>
  bif decide (a3<a2) then
   Ya (at? a4 a3) fun v5=>
   Ya (at? a4 a3) fun v6=>
   bif decide (a1≤v6.2) then
    Ya (Z1b.l0 k a1 0 v6.1 v6.2 []) fun y7=>
    some (.inr (true,y7.2.2))
   else
   Z1b.l1 k j a1 a2 (Yb .i64 (a3+1)) a4
  else
  some (.inl ())
def Z1b (k:Nat) (a1:List Int) (a2:List Int) (a3:Int):Option (List Int×Bool):=
 Ya (Z4o k a1 a2) fun v4=>
 Ya (Z4j v4) fun v5=>
 bif decide (v5<a3) then
  some ([],false)
 else
 Ya (Zpe k v4) fun v6=>
 Ya (Z1b.l1 k k a3 ((v6.length):Int) 0 v6) fun
  | .inl y7=>
   Ya (Z9b v4 0 a3) fun v8=>
   some (v8,true)
  | .inr y9=>
   some (y9.2,y9.1)
def Z1b.con (k:Nat):Con:=Sig.con { ps:=[.val false (.sl (.int .i64)) (ros (.sl (.int .i64))),.val false (.sl (.int .i64)) (ros (.sl (.int .i64))),.val false (.int .i64) (ros (.int .i64))],rs:=[.val false [.v (.sl (.int .i64))],.val false [.v .bool]],ntmps:=48 } (fun x=>Z1b k x.1 x.2.1 x.2.2)
def Z1b.cok (k:Nat):=cX (cC (Z4o.ok k) (cC (Z4j.ok k) (cC (Zpe.ok k) cN)))
def Z1b.l0.s (k:Nat):Summ:=lp 48 { tmps:=[(10,.one (.ptr 3 0)),(11,.one (.own 4)),(31,.one (.v (.int .i64))),(32,.one (.v (.int .i64)))],slots:=[(3,.box 243 [.v (.int .i64),.v (.int .i64)]),(4,.arr false 2 (.int .i64))],nb:=5 } [(.exit 2,{ tmps:=[(11,.one (.own 5))],slots:=[(3,.box 243 [.v (.int .i64),.v (.int .i64)]),(5,.arr false 2 (.int .i64))],nb:=6 })] (fun j x=>Z1b.l0 j x.1 x.2.1 x.2.2.1 x.2.2.2.1 x.2.2.2.2) k
def Z1b.l0.ok (k:Nat):=(lA (Z1b.cok k):Zj Tryz.prog _ (.loop (cO (cO (cR (cL (cR (cL (cR (cR (cO (cL (cR (cR (cO (cO (cR (cL (cR (cR (cR (cB Tryz.f138))))))))))))))))))))) (Z1b.l0.s k))
def Z1b.l1.s (k:Nat):Summ:=lp 48 { tmps:=[(2,.one (.v (.int .i64))),(21,.one (.own 2)),(22,.one (.v (.int .i64))),(23,.one (.v (.int .i64)))],slots:=[(2,.arr false 243 Zci)],nb:=3 } [(.exit 0,{ tmps:=[],slots:=[],nb:=3 }),(.ret,{ tmps:=[(6,.one (.own 3)),(7,.one (.v .bool))],slots:=[(3,.arr false 2 (.int .i64))],nb:=4 })] (fun j x=>Z1b.l1 k j x.1 x.2.1 x.2.2.1 x.2.2.2) k
def Z1b.l1.ok (k:Nat):=(lP (.two .auto (.two .auto (.two (.one (.two .auto (.two .auto (.two (.two .auto (.two (.two .auto (.one (.sum (Z1b.l0.s k)))) .auto)) .auto)))) .auto))) (Z1b.cok k) (sC (Z1b.l0.ok k) sN):Zj Tryz.prog _ (.loop (cO (cO (cR (cL (cR (cR (cR (cB Tryz.f138))))))))) (Z1b.l1.s k))
theorem Z1b.ok (k:Nat):Zf Tryz.prog 138 (Z1b.con k):=fP (.two .auto (.two .auto (.two .auto (.two (.two .auto (.one (.sum (Z1b.l1.s k)))) .auto)))) (Z1b.cok k) Tryz.func138 (sC (Z1b.l1.ok k) sN)
def Zne.l0:Nat→Int→List Str→List Zr→List Int→Int→Int→List Z5c→Option ((List Z5c))
 | 0,_,_,_,_,_,_,_=>none
 | j+1,a1,a2,a3,a4,a5,a6,a7=>
  bif decide (a6<a5) then
   Ya (at? a4 a6) fun v8=>
   Ya (Zmh (a1,(a2,a3)) v8) fun v9=>
   Ya (Zt 32 a7 ([(false,(v9,[]))])) fun v10=>
   Zne.l0 j a1 a2 a3 a4 a5 (Yb .i64 (a6+1)) v10
  else
  some a7
def Zne (k:Nat) (a1:G28) (a2:G46) (a3:G54):Option (List Z5c×Str×List Int×Int):=
 bif a2.1 != 1 then
  some ([],[],[],10)
 else
 Ya (Z1b k a2.2.2.2.2.2.2.1 [] (Yb .i64 (a3.2.1+a3.2.2.1))) fun v4=>
 bif !v4.2 then
  some ([],[],[],11)
 else
 Ya (Zne.l0 k a1.1 a1.2.1 a1.2.2 v4.1 ((v4.1.length):Int) 0 []) fun y5=>
 Ya (Zt 32 y5 ([(true,(0,[]))])) fun v6=>
 Ya (Zce k a1 (2,(0,(a3.2.1,(a3.2.2.1,(0,(a3.2.2.2.1,(a2.2.2.2.2.2.2.1,v4.1)))))))) fun v7=>
 Ya (Zt 32 v6 v7) fun v8=>
 some (v8,[],[],0)
def Zne.con (k:Nat):Con:=Sig.con { ps:=[.val true T28 (ros T28),.val true T46 (ros T46),.val true T54 (ros T54)],rs:=[.val true [.own 151 Zjc,.v .str,.own 2 (.int .i64),.v (.int .i64)]],ntmps:=63 } (fun x=>Zne k x.1 x.2.1 x.2.2)
def Zne.cok (k:Nat):=cXr true false (cC (Zce.ok k) (cC (Z1b.ok k) (cC (Zmh.ok k) cN)))
def Zne.l0.s (k:Nat):Summ:=lp 63 { tmps:=[(3,.eptr [.v (.int .i64),.bor .str,.bor Zp]),(9,.one (.own 2)),(30,.one (.v (.sl (.int .i64)))),(31,.one (.v (.int .i64))),(32,.one (.v (.int .i64)))],slots:=[(2,.arr false 151 Zjc)],nb:=3 } [(.exit 0,{ tmps:=[(9,.one (.own 3))],slots:=[(3,.arr false 151 Zjc)],nb:=4 })] (fun j x=>Zne.l0 j x.1 x.2.1 x.2.2.1 x.2.2.2.1 x.2.2.2.2.1 x.2.2.2.2.2.1 x.2.2.2.2.2.2) k
def Zne.l0.ok (k:Nat):=(lA (Zne.cok k):Zj Tryz.prog _ (.loop (cO (cO (cR (cL (cR (cR (cR (cR (cR (cB Tryz.f128))))))))))) (Zne.l0.s k))
theorem Zne.ok (k:Nat):Zf Tryz.prog 128 (Zne.con k):=fP (.two .auto (.two .auto (.two .auto (.two .auto (.two .auto (.two (.two .auto (.one (.sum (Zne.l0.s k)))) .auto)))))) (Zne.cok k) Tryz.func128 (sC (Zne.l0.ok k) sN)
def Zpk (a1:List G52):Option (Int):=
 some ((a1.length):Int)
def Zpk.con (k:Nat):Con:=Sig.con { ps:=[.val false (.sl T52) (ros (.sl T52))],rs:=[.val false [.v (.int .i64)]],ntmps:=5 } (fun x=>Zpk x)
theorem Zpk.ok (k:Nat):Zf Tryz.prog 135 (Zpk.con k):=fA (cX cN) Tryz.func135
def Zkp (k:Nat) (a1:G52):Option (Str):=
 Ya (Zwd k [a1.1,a1.2.1,a1.2.2.1]) fun v2=>
 Ya (Z9i k a1.2.2.2) fun v3=>
 Ya (Zpc v2 v3) fun v4=>
 some v4
def Zkp.con (k:Nat):Con:=Sig.con { ps:=[.val true T52 (ros T52)],rs:=[.val false [.v .str]],ntmps:=15 } (fun x=>Zkp k x)
theorem Zkp.ok (k:Nat):Zf Tryz.prog 269 (Zkp.con k):=fA (cX (cC (Zwd.ok k) (cC (Z9i.ok k) cN))) Tryz.func269
def Zip (k:Nat) (a1:Int) (a2:G52):Option (Str):=
 Ya (Zec k a1) fun v3=>
 Ya (Zkp k a2) fun v4=>
 Ya (Zpc v3 v4) fun v5=>
 Ya (Zaj k v5) fun v6=>
 some v6
def Zip.con (k:Nat):Con:=Sig.con { ps:=[.val false (.int .i64) (ros (.int .i64)),.val true T52 (ros T52)],rs:=[.val false [.v .str]],ntmps:=11 } (fun x=>Zip k x.1 x.2)
theorem Zip.ok (k:Nat):Zf Tryz.prog 219 (Zip.con k):=fA (cX (cC (Zaj.ok k) (cC (Zec.ok k) (cC (Zkp.ok k) cN)))) Tryz.func219
def Zzo (k:Nat) (a1:G28) (a2:G46) (a3:List G52) (a4:G52):Option (List Z5c×Str×List Int×Int):=
 bif a2.1 != 2 then
  some ([],[],[],10)
 else
 Ya (Zpk a3) fun v5=>
 bif v5==a2.2.2.1 then
  some ([],[],[],9)
 else
 Ya (Zt 40 a3 [a4]) fun v6=>
 Ya (Zcd k v6 a1.1) fun v7=>
 bif v7 != 0 then
  some ([],[],[],v7)
 else
 Ya (at? a2.2.2.2.2.2.2.2 (Yb .i64 (a2.2.2.2.1+v5))) fun v8=>
 Ya (Zmh a1 v8) fun v9=>
 Ya (Zip k v5 a4) fun v10=>
 let e11:=[(false,(v9,v10))]
 bif a4.1==5 then
  Ya (Zt 32 e11 ([(true,(0,[]))])) fun v12=>
  some (v12,[],[],0)
 else
 some (e11,[],[],0)
def Zzo.con (k:Nat):Con:=Sig.con { ps:=[.val true T28 (ros T28),.val true T46 (ros T46),.mv 52 T52,.val true T52 (ros T52)],rs:=[.val true [.own 151 Zjc,.v .str,.own 2 (.int .i64),.v (.int .i64)]],ntmps:=58 } (fun x=>Zzo k x.1 x.2.1 x.2.2.1 x.2.2.2)
theorem Zzo.ok (k:Nat):Zf Tryz.prog 129 (Zzo.con k):=fA (cXr true false (cC (Zcd.ok k) (cC (Zpk.ok k) (cC (Zmh.ok k) (cC (Zip.ok k) cN))))) Tryz.func129
def strings_Repeat (a:Str) (n:Int):Option Str:=if 0≤n∧(a.length:Int)*n≤140737488355328∧n≤9223372036854775807 then some (Lib.repeatL a n.toNat) else none
def strings_Repeat.sig:Sig:={ ps:=[.val false .str (ros .str),.val false (.int .i64) (ros (.int .i64))],rs:=[.val false [.v .str]],ntmps:=0 }
def strings_Repeat.con (k:Nat):Con:=strings_Repeat.sig.con (fun x=>strings_Repeat x.1 x.2)
theorem strings_Repeat.ok (k:Nat):Zf Tryz.prog 294 (strings_Repeat.con k):=Zwib (Zq2 Tryz.func294 (by kernel_rfl) (show Tryz.f294.body=some (cB Tryz.f294) by kernel_rfl)) (by kernel_rfl) (by kernel_rfl) (by
 intro (x:Str×Int) (y:Str) w h
 obtain ⟨a,n⟩:=x
 replace h:strings_Repeat a n=some y:=h
 unfold strings_Repeat at h
 split at h
 ·rename_i h0
  obtain ⟨h0,h1,h2⟩:=h0
  injection h with h
  subst h
  obtain ⟨c,rfl⟩:∃c:Nat,n=(c:Int):=⟨n.toNat,by omega⟩
  have h3:((a.length*c:Nat):Int)≤140737488355328:=by rw [Int.natCast_mul];exact h1
  have h1':a.length*c≤140737488355328:=by omega
  refine (Tryz.strings_Repeat (ba a) c w (by omega) h1').mono ?_
  rintro e w' ⟨rfl,bel⟩
  exact ⟨[.string (ba (Lib.repeatL a c))],rfl,rfl,rfl,bel⟩
 ·cases h)
def Zvd.l0:Nat→Int→Int→List Int→Option ((List Int))
 | 0,_,_,_=>none
 | j+1,a1,a2,a3=>
  bif decide (0≤a2) then
   Ya (at? a3 a2) fun v4=>
   Ya (at? a3 a2) fun v5=>
   Ya (Zvb 8) fun v6=>
   Zvd.l0 j (shr .u64 a1 8) (Yb .i64 (a2-1)) (Yd a3 (Yc a2) (Yb .u8 a1))
  else
  some a3
def Zvd (k:Nat) (a1:Int) (a2:Int):Option (Str):=
 Ya (Zwg 1 a2 a2 0) fun v3=>
 Ya (Zvd.l0 k a1 (Yb .i64 (a2-1)) v3) fun y4=>
 some (Znb y4)
def Zvd.con (k:Nat):Con:=Sig.con { ps:=[.val false (.int .u64) (ros (.int .u64)),.val false (.int .i64) (ros (.int .i64))],rs:=[.val false [.v .str]],ntmps:=24 } (fun x=>Zvd k x.1 x.2)
def Zvd.cok (k:Nat):=cX cN
def Zvd.l0.s (k:Nat):Summ:=lp 24 { tmps:=[(0,.one (.v (.int .u64))),(5,.one (.own 1)),(6,.one (.v (.int .i64)))],slots:=[(1,.arr false 5 (.int .u8))],nb:=2 } [(.exit 0,{ tmps:=[(5,.one (.own 2))],slots:=[(2,.arr false 5 (.int .u8))],nb:=3 })] (fun j x=>Zvd.l0 j x.1 x.2.1 x.2.2) k
def Zvd.l0.ok (k:Nat):=(lA (Zvd.cok k):Zj Tryz.prog _ (.loop (cO (cO (cR (cL (cR (cR (cB Tryz.f295)))))))) (Zvd.l0.s k))
theorem Zvd.ok (k:Nat):Zf Tryz.prog 295 (Zvd.con k):=fP (.two .auto (.two .auto (.two (.two .auto (.one (.sum (Zvd.l0.s k)))) .auto))) (Zvd.cok k) Tryz.func295 (sC (Zvd.l0.ok k) sN)
def Z2o (a1:Str):Option (Int):=
 Ya (at? a1 0) fun v2=>
 Ya (Zvb 24) fun v3=>
 Ya (at? a1 1) fun v4=>
 Ya (Zvb 16) fun v5=>
 Ya (at? a1 2) fun v6=>
 Ya (Zvb 8) fun v7=>
 Ya (at? a1 3) fun v8=>
 some (intBits .or .u32 (intBits .or .u32 (intBits .or .u32 (shl .u32 (Yb .u32 (v2.toNat:Int)) 24) (shl .u32 (Yb .u32 (v4.toNat:Int)) 16)) (shl .u32 (Yb .u32 (v6.toNat:Int)) 8)) (Yb .u32 (v8.toNat:Int)))
def Z2o.con (k:Nat):Con:=Sig.con { ps:=[.val false .str (ros .str)],rs:=[.val false [.v (.int .u32)]],ntmps:=21 } (fun x=>Z2o x)
theorem Z2o.ok (k:Nat):Zf Tryz.prog 311 (Z2o.con k):=fA (cX cN) Tryz.func311
def Z6q (a1:Int) (a2:Int):Option (Int):=
 let e3:=intBits .and .u64 (Yb .u64 a2) 31
 Ya (Zvb e3) fun v4=>
 let e5:=Yb .u64 (32-e3)
 Ya (Zvb e5) fun v6=>
 some (intBits .or .u32 (shl .u32 a1 e3) (shr .u32 a1 e5))
def Z6q.con (k:Nat):Con:=Sig.con { ps:=[.val false (.int .u32) (ros (.int .u32)),.val false (.int .i64) (ros (.int .i64))],rs:=[.val false [.v (.int .u32)]],ntmps:=17 } (fun x=>Z6q x.1 x.2)
theorem Z6q.ok (k:Nat):Zf Tryz.prog 321 (Z6q.con k):=fA (cX cN) Tryz.func321
def Z1h (a1:Int) (a2:Int):Option (Int):=
 Ya (Z6q a1 (Yb .i64 (0-a2))) fun v3=>
 some v3
def Z1h.con (k:Nat):Con:=Sig.con { ps:=[.val false (.int .u32) (ros (.int .u32)),.val false (.int .i64) (ros (.int .i64))],rs:=[.val false [.v (.int .u32)]],ntmps:=9 } (fun x=>Z1h x.1 x.2)
theorem Z1h.ok (k:Nat):Zf Tryz.prog 312 (Z1h.con k):=fA (cX (cC (Z6q.ok k) cN)) Tryz.func312
def Zpb.l0:Nat→Str→Int→List Int→Option ((List Int))
 | 0,_,_,_=>none
 | j+1,a1,a2,a3=>
  bif decide (a2<64) then
   let e4:=Yb .i64 (a2+1)
   bif decide (a2<16) then
    Ya (Z9b a1 (Yb .i64 (4*a2)) ((a1.length):Int)) fun v5=>
    Ya (Z2o v5) fun v6=>
    Ya (at? a3 a2) fun v7=>
    Ya (Z5r a3 a2 v6) fun v8=>
    Zpb.l0 j a1 e4 v8
   else
   let e9:=at? a3 (Yb .i64 (a2-15))
   Ya (e9) fun v10=>
   Ya (e9) fun v11=>
   let e12:=at? a3 (Yb .i64 (a2-2))
   Ya (e12) fun v13=>
   Ya (e12) fun v14=>
   Ya (Z1h v11 7) fun v15=>
   Ya (Z1h v11 18) fun v16=>
   Ya (Zvb 3) fun v17=>
   Ya (Z1h v14 17) fun v18=>
   Ya (Z1h v14 19) fun v19=>
   Ya (Zvb 10) fun v20=>
   let e21:=at? a3 (Yb .i64 (a2-16))
   Ya (e21) fun v22=>
   Ya (e21) fun v23=>
   let e24:=at? a3 (Yb .i64 (a2-7))
   Ya (e24) fun v25=>
   Ya (e24) fun v26=>
   Ya (at? a3 a2) fun v27=>
   Ya (Z5r a3 a2 (Yb .u32 ((Yb .u32 ((Yb .u32 (v23+(intBits .xor .u32 (intBits .xor .u32 v15 v16) (shr .u32 v11 3))))+v26))+(intBits .xor .u32 (intBits .xor .u32 v18 v19) (shr .u32 v14 10))))) fun v28=>
   Zpb.l0 j a1 e4 v28
  else
  some a3
def Zpb.l1:Nat→Int→Int→Int→Int→Int→Int→Int→Int→Int→List Int→Option ((Int×Int×Int×Int×Int×Int×Int×Int))
 | 0,_,_,_,_,_,_,_,_,_,_=>none
 | j+1,a1,a2,a3,a4,a5,a6,a7,a8,a9,a10=>
  bif decide (a9<64) then
   Ya (Z1h a5 6) fun v11=>
   Ya (Z1h a5 11) fun v12=>
   Ya (Z1h a5 25) fun v13=>
   Ya (at? Z7m a9) fun v14=>
   Ya (at? a10 a9) fun v15=>
   Ya (at? a10 a9) fun v16=>
   Ya (Z1h a1 2) fun v17=>
   Ya (Z1h a1 13) fun v18=>
   Ya (Z1h a1 22) fun v19=>
   let e20:=Yb .u32 ((Yb .u32 ((Yb .u32 ((Yb .u32 (a8+(intBits .xor .u32 (intBits .xor .u32 v11 v12) v13)))+(intBits .xor .u32 (intBits .and .u32 a5 a6) (intBits .and .u32 (intBits .xor .u32 (Ye .u32) a5) a7))))+v14))+v16)
   Zpb.l1 j (Yb .u32 (e20+(Yb .u32 ((intBits .xor .u32 (intBits .xor .u32 v17 v18) v19)+(intBits .xor .u32 (intBits .xor .u32 (intBits .and .u32 a1 a2) (intBits .and .u32 a1 a3)) (intBits .and .u32 a2 a3)))))) a1 a2 a3 (Yb .u32 (a4+e20)) a5 a6 a7 (Yb .i64 (a9+1)) a10
  else
  some (a1,a2,a3,a4,a5,a6,a7,a8)
def Zpb.l2:Nat→Int→Int→Int→Int→Int→Int→Int→Int→Int→List Int→Option ((List Int))
 | 0,_,_,_,_,_,_,_,_,_,_=>none
 | j+1,a1,a2,a3,a4,a5,a6,a7,a8,a9,a10=>
  bif decide (a9<8) then
   Ya (at? [a1,a2,a3,a4,a5,a6,a7,a8] a9) fun v11=>
   Ya (at? a10 a9) fun v12=>
   Ya (at? a10 a9) fun v13=>
   Ya (at? a10 a9) fun v14=>
   Ya (Z5r a10 a9 (Yb .u32 (v13+v11))) fun v15=>
   Zpb.l2 j a1 a2 a3 a4 a5 a6 a7 a8 (Yb .i64 (a9+1)) v15
  else
  some a10
def Zpb (k:Nat) (a1:List Int) (a2:Str):Option (List Int):=
 Ya (Zpb.l0 k a2 0 (Yi 64 (0:Int))) fun y3=>
 Ya (at? a1 0) fun v4=>
 Ya (at? a1 0) fun v5=>
 Ya (at? a1 1) fun v6=>
 Ya (at? a1 1) fun v7=>
 Ya (at? a1 2) fun v8=>
 Ya (at? a1 2) fun v9=>
 Ya (at? a1 3) fun v10=>
 Ya (at? a1 3) fun v11=>
 Ya (at? a1 4) fun v12=>
 Ya (at? a1 4) fun v13=>
 Ya (at? a1 5) fun v14=>
 Ya (at? a1 5) fun v15=>
 Ya (at? a1 6) fun v16=>
 Ya (at? a1 6) fun v17=>
 Ya (at? a1 7) fun v18=>
 Ya (at? a1 7) fun v19=>
 Ya (Zpb.l1 k v5 v7 v9 v11 v13 v15 v17 v19 0 y3) fun y20=>
 Ya (Zpb.l2 k y20.1 y20.2.1 y20.2.2.1 y20.2.2.2.1 y20.2.2.2.2.1 y20.2.2.2.2.2.1 y20.2.2.2.2.2.2.1 y20.2.2.2.2.2.2.2 0 a1) fun y21=>
 some y21
def Zpb.con (k:Nat):Con:=Sig.con { ps:=[.val false (.sl (.int .u32)) [.own 2000008],.val false .str (ros .str)],rs:=[],ntmps:=193 } (fun x=>Zpb k x.1 x.2)
def Zpb.cok (k:Nat):=cX (cC (Z2o.ok k) (cC (Z1h.ok k) cN))
def Zpb.l0.s (k:Nat):Summ:=lp 193 { tmps:=[(1,.one (.v .str)),(4,.one (.own 2)),(23,.one (.v (.int .i64)))],slots:=[(2,.arr false 2000064 (.int .u32))],nb:=3 } [(.exit 0,{ tmps:=[(4,.one (.own 3))],slots:=[(3,.arr false 2000064 (.int .u32))],nb:=4 })] (fun j x=>Zpb.l0 j x.1 x.2.1 x.2.2) k
def Zpb.l0.ok (k:Nat):=(lA (Zpb.cok k):Zj Tryz.prog _ (.loop (cO (cO (cR (cL (cR (cB Tryz.f296))))))) (Zpb.l0.s k))
def Zpb.l1.s (k:Nat):Summ:=lp 193 { tmps:=[(4,.one (.own 4)),(10,.one (.v (.int .u32))),(11,.one (.v (.int .u32))),(12,.one (.v (.int .u32))),(13,.one (.v (.int .u32))),(14,.one (.v (.int .u32))),(15,.one (.v (.int .u32))),(16,.one (.v (.int .u32))),(17,.one (.v (.int .u32))),(107,.one (.v (.int .i64)))],slots:=[(4,.arr false 2000064 (.int .u32))],nb:=5 } [(.exit 2,{ tmps:=[(10,.one (.v (.int .u32))),(11,.one (.v (.int .u32))),(12,.one (.v (.int .u32))),(13,.one (.v (.int .u32))),(14,.one (.v (.int .u32))),(15,.one (.v (.int .u32))),(16,.one (.v (.int .u32))),(17,.one (.v (.int .u32)))],slots:=[],nb:=5 })] (fun j x=>Zpb.l1 j x.1 x.2.1 x.2.2.1 x.2.2.2.1 x.2.2.2.2.1 x.2.2.2.2.2.1 x.2.2.2.2.2.2.1 x.2.2.2.2.2.2.2.1 x.2.2.2.2.2.2.2.2.1 x.2.2.2.2.2.2.2.2.2) k
def Zpb.l1.ok (k:Nat):=(lA (Zpb.cok k):Zj Tryz.prog _ (.loop (cO (cO (cR (cL (cR (cR (cR (cB Tryz.f296))))))))) (Zpb.l1.s k))
def Zpb.l2.s (k:Nat):Summ:=lp 193 { tmps:=[(0,.one (.pin 0)),(178,.agg [.v (.int .u32),.v (.int .u32),.v (.int .u32),.v (.int .u32),.v (.int .u32),.v (.int .u32),.v (.int .u32),.v (.int .u32)]),(179,.one (.v (.int .i64)))],slots:=[(0,.pin 2000008 (.int .u32))],nb:=5 } [(.exit 4,{ tmps:=[],slots:=[(0,.pin 2000008 (.int .u32))],nb:=5 })] (fun j x=>Zpb.l2 j x.1 x.2.1 x.2.2.1 x.2.2.2.1 x.2.2.2.2.1 x.2.2.2.2.2.1 x.2.2.2.2.2.2.1 x.2.2.2.2.2.2.2.1 x.2.2.2.2.2.2.2.2.1 x.2.2.2.2.2.2.2.2.2) k
def Zpb.l2.ok (k:Nat):=(lA (Zpb.cok k):Zj Tryz.prog _ (.loop (cO (cO (cR (cR (cR (cR (cR (cB Tryz.f296))))))))) (Zpb.l2.s k))
theorem Zpb.ok (k:Nat):Zf Tryz.prog 296 (Zpb.con k):=fP (.two .auto (.two (.two .auto (.one (.sum (Zpb.l0.s k)))) (.two .auto (.two (.two .auto (.one (.sum (Zpb.l1.s k)))) (.two .auto (.one (.sum (Zpb.l2.s k)))))))) (Zpb.cok k) Tryz.func296 (sC (Zpb.l0.ok k) (sC (Zpb.l1.ok k) (sC (Zpb.l2.ok k) sN)))
end Go.Proofs.Qz
