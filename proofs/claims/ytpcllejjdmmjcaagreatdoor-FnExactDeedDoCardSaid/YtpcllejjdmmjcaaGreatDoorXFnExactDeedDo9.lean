/- What the law FnExactDeedDo needs, part 10 of 15: the Lean functions of the Go functions that it reaches, with the proofs that the calls come to what they say, and plain facts about them. Conditions: those that each theorem states. Written by a session and by its programs (after the kit's printer). -/
import Derived.Laws.BitsLemmas
import Derived.Test.YtpcllejjdmmjcaaGreatDoorXFnExactDeedDo5
import Derived.Test.YtpcllejjdmmjcaaGreatDoorXFnExactDeedDo8
open Option renaming bind → Ya
open Go.IntKind renaming wrap → Yb, bits → Yl, signed → Yo, max → Yt
open Go.Proofs.Tryz renaming prog → Yc, f296 → Y1
open List renaming getD → Yd, set → Yk, replicate → Ym, length_append → Yp, length_cons → Yq, append_assoc → Yu, drop_eq_getElem_cons → Yv, drop_length → Yw, getElem?_eq_getElem → Yx, length_map → Yy, drop_drop → Y3, drop_zero → Y4, getElem_mem → Y5, length_drop → Y6, take_add_one → Y7, take_append_drop → Y8
open BitVec renaming ofInt → Ye, ofInt_natCast → Yh, toNat_ofNat → Yi, toNat_and → Y2
open Int renaming toNat_natCast → Yf, toNat → Yj
open Nat renaming mod_eq_of_lt → Yg, zero_add → Yn, mul_comm → Yr, pow_succ → Ys, add_assoc → Yz, mul_le_mul_right → Y0, add_comm → Y9, and_one_is_mod → Yaa, min_eq_left → Yba, mul_assoc → Yca, pow_le_pow_right → Yda, pow_zero → Yea, sub_self → Yfa, xor_lt_two_pow → Yga
namespace Go.Proofs.Qz
open Go Go.RowKit
set_option linter.unusedVariables false
set_option linter.defProp false
def Z3s (a1:List Zmc):Option (Int):=some ((a1.length):Int)
def Z3s.con (k:Nat):Con:=Sig.con { ps:=[.val false (.sl Z6b) (ros (.sl Z6b))],rs:=[.val false [.v (.int .i64)]],ntmps:=5 } (fun x=>Z3s x)
theorem Z3s.ok (k:Nat):Ze Yc 126 (Z3s.con k):=fA (cX cN) Tryz.func126
def Zlo (a1:Str) (a2:Str) (a3:Int):Option (Str):=bif decide (a3<1) then some a1 else bif a3==1 then some a2 else Ya (Zpb a2 0 (Zlj (Yb .i64 (a3-2)) ((a2.length):Int))) fun v4=>some v4
def Zlo.con (k:Nat):Con:=Sig.con { ps:=[.val false .str (ros .str),.val false .str (ros .str),.val false (.int .i64) (ros (.int .i64))],rs:=[.val false [.v .str]],ntmps:=22 } (fun x=>Zlo x.1 x.2.1 x.2.2)
theorem Zlo.ok (k:Nat):Ze Yc 218 (Zlo.con k):=fA (cX cN) Tryz.func218
def Zje.l0:Nat→List Int→Int→Int→List Zq→List Str→Option ((List Str×List Zq))
 | 0,_,_,_,_,_=>none
 | j+1,a1,a2,a3,a4,a5=>bif decide (a3<a2) then Ya (at? a4 a3) fun v6=>Ya (at? a4 a3) fun v7=>let e8:=Yb .i64 (a3+1);let e9:=at? a5 v7.1;bif decide (a3<((a1.length):Int)) then Ya (at? a1 a3) fun v10=>Ya (e9) fun v11=>Ya (e9) fun v12=>Ya (Zlo v12 v7.2 v10) fun v13=>Ya (e9) fun v14=>Ya (e9) fun v15=>Zje.l0 j a1 a2 e8 a4 (Yk a5 (Yj v7.1) v13) else Ya (e9) fun v16=>Ya (e9) fun v17=>Ya (Zlo v17 v7.2 0) fun v18=>Ya (e9) fun v19=>Ya (e9) fun v20=>Zje.l0 j a1 a2 e8 a4 (Yk a5 (Yj v7.1) v18) else some (a5,a4)
def Zje (k:Nat) (a1:G26) (a2:List Int):Option (List Str×List Zq):=Ya (Zje.l0 k a2 ((a1.2.length):Int) 0 a1.2 a1.1) fun y3=>some (y3.1,[])
def Zje.con (k:Nat):Con:=Sig.con { ps:=[.ref 26 T26 [.own 9,.own 195],.val false (.sl (.int .i64)) (ros (.sl (.int .i64)))],rs:=[],ntmps:=48 } (fun x=>Zje k x.1 x.2)
def Zje.cok (k:Nat):=cX (cC (Zlo.ok k) cN)
def Zje.l0.s (k:Nat):Summ:=lp 48 { tmps:=[(0,.one (.ptr 0 0)),(1,.one (.bor (.int .i64))),(10,.one (.own 3)),(11,.one (.v (.int .i64))),(12,.one (.v (.int .i64)))],slots:=[(0,.box 26 [.own 4,.own 3]),(3,.arr false 195 Zo),(4,.arr false 9 .str)],nb:=5 } [(.exit 0,{ tmps:=[],slots:=[(0,.box 26 [.own 5,.own 6]),(5,.arr false 9 .str),(6,.arr false 195 Zo)],nb:=7 })] (fun j x=>Zje.l0 j x.1 x.2.1 x.2.2.1 x.2.2.2.1 x.2.2.2.2) k
def Zje.l0.ok (k:Nat):=(lA (Zje.cok k):Zj Yc _ (.loop (cO (cO (cR (cL (cB Tryz.f127)))))) (Zje.l0.s k))
theorem Zje.ok (k:Nat):Ze Yc 127 (Zje.con k):=fP (.two (.two .auto (.one (.sum (Zje.l0.s k)))) .auto) (Zje.cok k) Tryz.func127 (sC (Zje.l0.ok k) sN)
def Zcn (k:Nat) (a1:G28) (a2:List Zmc) (a3:Int) (a4:List Int):Option (Int×List Str×List Zq):=Ya (Z3s a2) fun v5=>Ya (Zpb a2 0 (Zlj a3 v5)) fun v6=>Ya (Zud k a1.2 v6) fun v7=>Ya (Zje k v7 a4) fun v8=>some (a1.1,v8.1,v8.2)
def Zcn.con (k:Nat):Con:=Sig.con { ps:=[.val true T28 (ros T28),.val false (.sl Z6b) (ros (.sl Z6b)),.val false (.int .i64) (ros (.int .i64)),.val false (.sl (.int .i64)) (ros (.sl (.int .i64)))],rs:=[.val true [.v (.int .i64),.own 9 .str,.own 195 Zo]],ntmps:=25 } (fun x=>Zcn k x.1 x.2.1 x.2.2.1 x.2.2.2)
theorem Zcn.ok (k:Nat):Ze Yc 61 (Zcn.con k):=fA (cXr true false (cC (Zud.ok k) (cC (Z3s.ok k) (cC (Zje.ok k) cN)))) Tryz.func61
def Z0f.l0:Nat→Str→Int→Int→List Int→Option ((List Int))
 | 0,_,_,_,_=>none
 | j+1,a1,a2,a3,a4=>bif decide (a3<a2) then Ya (at? a4 a3) fun v5=>Ya (at? a4 a3) fun v6=>Ya (at? a1 a3) fun v7=>Ya (at? a4 a3) fun v8=>Ya (at? a4 a3) fun v9=>Z0f.l0 j a1 a2 (Yb .i64 (a3+1)) (Yk a4 (Yj a3) (intBits .xor .u8 v6 (v7.toNat:Int))) else some a4
def Z0f (k:Nat) (a1:Str) (a2:Str):Option (Str):=Ya (Z4x (a1.length) 1) fun v3=>Ya (Z0f.l0 k a2 (((Zhb a1).length):Int) 0 (Zhb a1)) fun y4=>some (Zob y4)
def Z0f.con (k:Nat):Con:=Sig.con { ps:=[.val false .str (ros .str),.val false .str (ros .str)],rs:=[.val false [.v .str]],ntmps:=26 } (fun x=>Z0f k x.1 x.2)
def Z0f.cok (k:Nat):=cX cN
def Z0f.l0.s (k:Nat):Summ:=lp 26 { tmps:=[(1,.one (.v .str)),(5,.one (.own 1)),(10,.one (.v (.int .i64))),(11,.one (.v (.int .i64)))],slots:=[(1,.arr true 5 (.int .u8))],nb:=2 } [(.exit 0,{ tmps:=[(5,.one (.own 2))],slots:=[(2,.arr true 5 (.int .u8))],nb:=3 })] (fun j x=>Z0f.l0 j x.1 x.2.1 x.2.2.1 x.2.2.2) k
def Z0f.l0.ok (k:Nat):=(lA (Z0f.cok k):Zj Yc _ (.loop (cO (cO (cR (cL (cR (cR (cB Tryz.f264)))))))) (Z0f.l0.s k))
theorem Z0f.ok (k:Nat):Ze Yc 264 (Z0f.con k):=fP (.two .auto (.two .auto (.two (.two .auto (.one (.sum (Z0f.l0.s k)))) .auto))) (Z0f.cok k) Tryz.func264 (sC (Z0f.l0.ok k) sN)
def Zdn (k:Nat) (a1:G52) (a2:Str):Option (Str):=bif a1.1==1 then some ([0,0,0,0,0,0,0,0]:Str) else bif a1.1==2 then some a1.2.2.2 else bif a1.1==3 then some a2 else Ya (Z0f k a2 a1.2.2.2) fun v3=>some v3
def Zdn.con (k:Nat):Con:=Sig.con { ps:=[.val true T52 (ros T52),.val false .str (ros .str)],rs:=[.val false [.v .str]],ntmps:=20 } (fun x=>Zdn k x.1 x.2)
theorem Zdn.ok (k:Nat):Ze Yc 206 (Zdn.con k):=fA (cX (cC (Z0f.ok k) cN)) Tryz.func206
def Zze.l0 (k:Nat):Nat→List Str→List G52→Int→Int→List Str→Option ((List Str))
 | 0,_,_,_,_,_=>none
 | j+1,a1,a2,a3,a4,a5=>bif decide (a4<a3) then Ya (at? a2 a4) fun v6=>Ya (at? a1 v6.2.2.1) fun v7=>Ya (Zdn k v6 v7) fun v8=>let e9:=at? a5 v6.2.1;Ya (e9) fun v10=>Ya (e9) fun v11=>Zze.l0 k j a1 a2 a3 (Yb .i64 (a4+1)) (Yk a5 (Yj v6.2.1) v8) else some a5
def Zze (k:Nat) (a1:List Str) (a2:List G52):Option (List Str):=Ya (Zii a1) fun v3=>Ya (Zqj k a2) fun v4=>Ya (Zze.l0 k k a1 v4 ((v4.length):Int) 0 v3) fun y5=>some y5
def Zze.con (k:Nat):Con:=Sig.con { ps:=[.val false (.sl .str) (ros (.sl .str)),.val false (.sl T52) (ros (.sl T52))],rs:=[.val false [.own 9 .str]],ntmps:=30 } (fun x=>Zze k x.1 x.2)
def Zze.cok (k:Nat):=cX (cC (Zqj.ok k) (cC (Zii.ok k) (cC (Zdn.ok k) cN)))
def Zze.l0.s (k:Nat):Summ:=lp 30 { tmps:=[(0,.one (.bor .str)),(5,.one (.own 1)),(11,.one (.v (.sl T52))),(12,.one (.v (.int .i64))),(13,.one (.v (.int .i64)))],slots:=[(1,.arr false 9 .str)],nb:=2 } [(.exit 0,{ tmps:=[(5,.one (.own 2))],slots:=[(2,.arr false 9 .str)],nb:=3 })] (fun j x=>Zze.l0 k j x.1 x.2.1 x.2.2.1 x.2.2.2.1 x.2.2.2.2) k
def Zze.l0.ok (k:Nat):=(lA (Zze.cok k):Zj Yc _ (.loop (cO (cO (cR (cL (cR (cR (cB Tryz.f113)))))))) (Zze.l0.s k))
theorem Zze.ok (k:Nat):Ze Yc 113 (Zze.con k):=fP (.two .auto (.two .auto (.two (.two .auto (.one (.sum (Zze.l0.s k)))) .auto))) (Zze.cok k) Tryz.func113 (sC (Zze.l0.ok k) sN)
def Z2p (a1:Zed) (a2:Int):Option (Bool):=some ((a1.1==2)&&(a1.2.2.1==a2))
def Z2p.con (k:Nat):Con:=Sig.con { ps:=[.val true Z5b (ros Z5b),.rptr (.int .i64)],rs:=[.val false [.v .bool]],ntmps:=13 } (fun x=>Z2p x.1 x.2)
theorem Z2p.ok (k:Nat):Ze Yc 116 (Z2p.con k):=fA (cX cN) Tryz.func116
def Z3d.l0:Nat→List Zed→Int→Int→Int→Option (Int ⊕ (Int×Int))
 | 0,_,_,_,_=>none
 | j+1,a1,a2,a3,a4=>bif decide (a3<a2) then Ya (at? a1 a3) fun v5=>Ya (Z2p v5 a4) fun v6=>bif v6 then some (.inr (a3,a4)) else Z3d.l0 j a1 a2 (Yb .i64 (a3+1)) a4 else some (.inl a4)
def Z3d (k:Nat) (a1:List Zed) (a2:Int):Option (Int×Int):=Ya (Z3d.l0 k a1 ((a1.length):Int) 0 a2) fun
  | .inl y3=>some ((-1),y3)
  | .inr y4=>some (y4.1,y4.2)
def Z3d.con (k:Nat):Con:=Sig.con { ps:=[.val false (.sl Z5b) (ros (.sl Z5b)),.fn 116 [(2,(.int .i64),(Z9g (.int .i64)))]],rs:=[.val false [.v (.int .i64)]],ntmps:=19 } (fun x=>Z3d k x.1 x.2)
def Z3d.cok (k:Nat):=cX (cC (Z2p.ok k) cN)
def Z3d.l0.s (k:Nat):Summ:=lp 19 { tmps:=[(0,.one (.bor Z5b)),(1,.fn 116 [.ptr 0 0]),(7,.one (.v (.int .i64))),(8,.one (.v (.int .i64)))],slots:=[(0,.box 2 [.v (.int .i64)])],nb:=1 } [(.exit 0,{ tmps:=[],slots:=[(0,.box 2 [.v (.int .i64)])],nb:=1 }),(.ret,{ tmps:=[(4,.one (.v (.int .i64)))],slots:=[(0,.box 2 [.v (.int .i64)])],nb:=1 })] (fun j x=>Z3d.l0 j x.1 x.2.1 x.2.2.1 x.2.2.2) k
def Z3d.l0.ok (k:Nat):=(lA (Z3d.cok k):Zj Yc _ (.loop (cO (cO (cR (cL (cR (cB Tryz.f207))))))) (Z3d.l0.s k))
theorem Z3d.ok (k:Nat):Ze Yc 207 (Z3d.con k):=fP (.two .auto (.two (.two .auto (.one (.sum (Z3d.l0.s k)))) .auto)) (Z3d.cok k) Tryz.func207 (sC (Z3d.l0.ok k) sN)
def Zhr (k:Nat) (a1:List Zed) (a2:Int):Option (Bool×Int):=Ya (Z3d k a1 a2) fun v3=>some (decide (0≤v3.1),v3.2)
def Zhr.con (k:Nat):Con:=Sig.con { ps:=[.val false (.sl Z5b) (ros (.sl Z5b)),.fn 116 [(2,(.int .i64),(Z9g (.int .i64)))]],rs:=[.val false [.v .bool]],ntmps:=9 } (fun x=>Zhr k x.1 x.2)
theorem Zhr.ok (k:Nat):Ze Yc 115 (Zhr.con k):=fA (cX (cC (Z3d.ok k) cN)) Tryz.func115
def Z1p (k:Nat) (a1:Int) (a2:List Zed) (a3:G46):Option (Bool):=Ya (Zpb a2 0 a3.2.2.2.2.1) fun v4=>Ya (Zhr k v4 a1) fun v5=>some v5.1
def Z1p.con (k:Nat):Con:=Sig.con { ps:=[.val false (.int .i64) (ros (.int .i64)),.rptr (.sl Z5b),.rptr T46],rs:=[.val false [.v .bool]],ntmps:=11 } (fun x=>Z1p k x.1 x.2.1 x.2.2)
theorem Z1p.ok (k:Nat):Ze Yc 114 (Z1p.con k):=fA (cX (cC (Zhr.ok k) cN)) Tryz.func114
def Zvd.l0:Nat→Int→List Zed→Int→Int→Option (Unit ⊕ Int)
 | 0,_,_,_,_=>none
 | j+1,a1,a2,a3,a4=>bif decide (a4<a3) then Ya (at? a2 a4) fun v5=>bif (v5.1==1)&&(v5.2.2.1==a1) then some (.inr (v5.2.2.2)) else Zvd.l0 j a1 a2 a3 (Yb .i64 (a4+1)) else some (.inl ())
def Zvd (k:Nat) (a1:List Zed) (a2:Int) (a3:Int):Option (Int):=Ya (Zpb a1 0 a2) fun v4=>Ya (Zvd.l0 k a3 v4 ((v4.length):Int) 0) fun
  | .inl y5=>some (-1)
  | .inr y6=>some y6
def Zvd.con (k:Nat):Con:=Sig.con { ps:=[.val false (.sl Z5b) (ros (.sl Z5b)),.val false (.int .i64) (ros (.int .i64)),.val false (.int .i64) (ros (.int .i64))],rs:=[.val false [.v (.int .i64)]],ntmps:=29 } (fun x=>Zvd k x.1 x.2.1 x.2.2)
def Zvd.cok (k:Nat):=cX cN
def Zvd.l0.s (k:Nat):Summ:=lp 29 { tmps:=[(2,.one (.v (.int .i64))),(11,.one (.bor Z5b)),(12,.one (.v (.int .i64))),(13,.one (.v (.int .i64)))],slots:=[],nb:=0 } [(.exit 0,{ tmps:=[],slots:=[],nb:=0 }),(.ret,{ tmps:=[(6,.one (.v (.int .i64)))],slots:=[],nb:=0 })] (fun j x=>Zvd.l0 j x.1 x.2.1 x.2.2.1 x.2.2.2) k
def Zvd.l0.ok (k:Nat):=(lA (Zvd.cok k):Zj Yc _ (.loop (cO (cO (cR (cL (cR (cB Tryz.f211))))))) (Zvd.l0.s k))
theorem Zvd.ok (k:Nat):Ze Yc 211 (Zvd.con k):=fP (.two .auto (.two (.two .auto (.one (.sum (Zvd.l0.s k)))) .auto)) (Zvd.cok k) Tryz.func211 (sC (Zvd.l0.ok k) sN)
def Zjg.j0 (k:Nat) (a1:List Zed) (a2:Int) (a3:List Str) (a4:List Zq) (a5:Int) (a6:Int) (a7:Int) (a8:Int) (a9:Int) (a10:Str) (a11:List Int) (a12:List Int) (a13:Str) (a14:Int) (a15:Int) (a16:Int) (a17:Str):Option ((Str×Int×Int×Int×Str)):=bif (a14==3)||(a14==4) then Ya (Zig k (a3,a4) (Yb .i64 (3+a16))) fun v18=>Ya (Zvd k a1 a9 a16) fun v19=>bif decide (0≤v19) then Ya (at? a12 v19) fun v20=>Ya (Zmj k (a2,(a3,a4)) v20) fun v21=>some (v21,a14,a15,a16,a17) else some (v18,a14,a15,a16,a17) else some (a13,a14,a15,a16,a17)
def Zjg (k:Nat) (a1:G28) (a2:G46) (a3:List Zed) (a4:G52):Option (Str):=Ya (Zjg.j0 k a3 a1.1 a1.2.1 a1.2.2 a2.1 a2.2.1 a2.2.2.1 a2.2.2.2.1 a2.2.2.2.2.1 a2.2.2.2.2.2.1 a2.2.2.2.2.2.2.1 a2.2.2.2.2.2.2.2 [] a4.1 a4.2.1 a4.2.2.1 a4.2.2.2) fun y5=>bif (y5.2.1==4)&&(((y5.1.length):Int) != 8) then some ([]) else Ya (Zdn k y5.2 y5.1) fun v6=>some v6
def Zjg.con (k:Nat):Con:=Sig.con { ps:=[.val true T28 (ros T28),.val true T46 (ros T46),.val false (.sl Z5b) (ros (.sl Z5b)),.val true T52 (ros T52)],rs:=[.val false [.v .str]],ntmps:=51 } (fun x=>Zjg k x.1 x.2.1 x.2.2.1 x.2.2.2)
def Zjg.cok (k:Nat):=cXr true false (cC (Zig.ok k) (cC (Zmj.ok k) (cC (Zdn.ok k) (cC (Zvd.ok k) cN))))
def Zjg.j0.s (k:Nat):Summ:=lq 51 { tmps:=[(2,.one (.bor Z5b)),(4,.eptr [.v (.int .i64),.bor .str,.bor Zo]),(5,.eptr [.v (.int .i64),.v (.int .i64),.v (.int .i64),.v (.int .i64),.v (.int .i64),.v .str,.bor (.int .i64),.bor (.int .i64)]),(7,.one (.ptr 0 0)),(9,.one (.v .str))],slots:=[(0,.box 52 [.v (.int .i64),.v (.int .i64),.v (.int .i64),.v .str])],nb:=1 } [(.nrm,{ tmps:=[(9,.one (.v .str))],slots:=[(0,.box 52 [.v (.int .i64),.v (.int .i64),.v (.int .i64),.v .str])],nb:=1 })] (fun x=>Zjg.j0 k x.1 x.2.1 x.2.2.1 x.2.2.2.1 x.2.2.2.2.1 x.2.2.2.2.2.1 x.2.2.2.2.2.2.1 x.2.2.2.2.2.2.2.1 x.2.2.2.2.2.2.2.2.1 x.2.2.2.2.2.2.2.2.2.1 x.2.2.2.2.2.2.2.2.2.2.1 x.2.2.2.2.2.2.2.2.2.2.2.1 x.2.2.2.2.2.2.2.2.2.2.2.2.1 x.2.2.2.2.2.2.2.2.2.2.2.2.2.1 x.2.2.2.2.2.2.2.2.2.2.2.2.2.2.1 x.2.2.2.2.2.2.2.2.2.2.2.2.2.2.2.1 x.2.2.2.2.2.2.2.2.2.2.2.2.2.2.2.2)
def Zjg.j0.ok (k:Nat):=(jA (Zjg.cok k):Zj Yc _ (cL (cR (cR (cB Tryz.f118)))) (Zjg.j0.s k))
theorem Zjg.ok (k:Nat):Ze Yc 118 (Zjg.con k):=fP (.two .auto (.two .auto (.two (.sum (Zjg.j0.s k)) .auto))) (Zjg.cok k) Tryz.func118 (sC (Zjg.j0.ok k) sN)
def Zwe.l0 (k:Nat):Nat→Int→List Str→List Zq→List G52→Int→Int→Int→Int→Int→Int→Int→Str→List Str→List Int→List Int→List Zed→Option ((Int×Int×Int×Int×Int×Str×List Str×List Int×List Int×List Zed))
 | 0,_,_,_,_,_,_,_,_,_,_,_,_,_,_,_,_=>none
 | j+1,a1,a2,a3,a4,a5,a6,a7,a8,a9,a10,a11,a12,a13,a14,a15,a16=>bif decide (a6<a5) then Ya (at? a4 a6) fun v17=>let e18:=(a7,(a8,(a9,(a10,(a11,(a12,(a14,a15)))))));Ya (Z1p k v17.2.1 a16 e18) fun v19=>let e20:=Yb .i64 (a6+1);bif !v19 then Ya (Zjg k (a1,(a2,a3)) e18 a16 v17) fun v21=>let e22:=at? a13 v17.2.1;Ya (e22) fun v23=>Ya (e22) fun v24=>Zwe.l0 k j a1 a2 a3 a4 a5 e20 a7 a8 a9 a10 a11 a12 (Yk a13 (Yj v17.2.1) v21) a14 a15 a16 else Zwe.l0 k j a1 a2 a3 a4 a5 e20 a7 a8 a9 a10 a11 a12 a13 a14 a15 a16 else some (a7,a8,a9,a10,a11,a12,a13,a14,a15,a16)
def Zwe (k:Nat) (a1:G28):Option (List Str):=Ya (Zsg k a1) fun v2=>Ya (Zzd k a1) fun v3=>Ya (Zad k a1 (v2.1,(v2.2.1,(v2.2.2.1,(v2.2.2.2.1,(v2.2.2.2.2.1,(v2.2.2.2.2.2.1,(v2.2.2.2.2.2.2.1,v2.2.2.2.2.2.2.2.1)))))))) fun v4=>bif v2.1==4 then Ya (Zze k v3 v4) fun v5=>some v5 else bif v2.1==5 then Ya (Znb k v4) fun v6=>Ya (Zqj k v4) fun v7=>Ya (Zwe.l0 k k a1.1 a1.2.1 a1.2.2 v7 ((v7.length):Int) 0 v2.1 v2.2.1 v2.2.2.1 v2.2.2.2.1 v2.2.2.2.2.1 v2.2.2.2.2.2.1 v3 v2.2.2.2.2.2.2.1 v2.2.2.2.2.2.2.2.1 v6) fun y8=>some y8.2.2.2.2.2.2.1 else some v3
def Zwe.con (k:Nat):Con:=Sig.con { ps:=[.val true T28 (ros T28)],rs:=[.val false [.own 9 .str]],ntmps:=56 } (fun x=>Zwe k x)
def Zwe.cok (k:Nat):=cXr true false (cC (Zzd.ok k) (cC (Zsg.ok k) (cC (Zad.ok k) (cC (Znb.ok k) (cC (Zze.ok k) (cC (Z1p.ok k) (cC (Zqj.ok k) (cC (Zjg.ok k) cN))))))))
def Zwe.l0.s (k:Nat):Summ:=lp 56 { tmps:=[(1,.eptr [.v (.int .i64),.bor .str,.bor Zo]),(3,.one (.ptr 2 0)),(5,.one (.own 7)),(7,.one (.ptr 6 0)),(8,.fn 114 [.ptr 6 0,.ptr 2 0]),(34,.one (.v (.sl T52))),(35,.one (.v (.int .i64))),(36,.one (.v (.int .i64)))],slots:=[(2,.box 46 [.v (.int .i64),.v (.int .i64),.v (.int .i64),.v (.int .i64),.v (.int .i64),.v .str,.own 8,.own 9]),(6,.box 98 [.own 10]),(7,.arr false 9 .str),(8,.arr false 2 (.int .i64)),(9,.arr false 2 (.int .i64)),(10,.arr false 139 Z5b)],nb:=11 } [(.exit 1,{ tmps:=[(5,.one (.own 11))],slots:=[(2,.box 46 [.v (.int .i64),.v (.int .i64),.v (.int .i64),.v (.int .i64),.v (.int .i64),.v .str,.own 12,.own 13]),(6,.box 98 [.own 14]),(11,.arr false 9 .str),(12,.arr false 2 (.int .i64)),(13,.arr false 2 (.int .i64)),(14,.arr false 139 Z5b)],nb:=15 })] (fun j x=>Zwe.l0 k j x.1 x.2.1 x.2.2.1 x.2.2.2.1 x.2.2.2.2.1 x.2.2.2.2.2.1 x.2.2.2.2.2.2.1 x.2.2.2.2.2.2.2.1 x.2.2.2.2.2.2.2.2.1 x.2.2.2.2.2.2.2.2.2.1 x.2.2.2.2.2.2.2.2.2.2.1 x.2.2.2.2.2.2.2.2.2.2.2.1 x.2.2.2.2.2.2.2.2.2.2.2.2.1 x.2.2.2.2.2.2.2.2.2.2.2.2.2.1 x.2.2.2.2.2.2.2.2.2.2.2.2.2.2.1 x.2.2.2.2.2.2.2.2.2.2.2.2.2.2.2) k
def Zwe.l0.ok (k:Nat):=(lA (Zwe.cok k):Zj Yc _ (.loop (cO (cO (cR (cR (cR (cL (cR (cR (cR (cO (cR (cL (cR (cR (cR (cB Tryz.f57))))))))))))))))) (Zwe.l0.s k))
theorem Zwe.ok (k:Nat):Ze Yc 57 (Zwe.con k):=fP (.two .auto (.two .auto (.two .auto (.two (.two .auto (.one (.two .auto (.two .auto (.two .auto (.two (.two .auto (.two .auto (.two .auto (.one (.sum (Zwe.l0.s k)))))) .auto)))))) .auto)))) (Zwe.cok k) Tryz.func57 (sC (Zwe.l0.ok k) sN)
def Zfc.j0 (a1:Int) (a2:Int):Option (Int):=bif decide (a1<0) then some (intBits .xor .u64 (Yt .u64) a2) else some a2
def Zfc.l1:Nat→Int→List Int→Option ((Int×List Int))
 | 0,_,_=>none
 | j+1,a1,a2=>bif decide (127<a1) then Ya (Zt 1 a2 [(intBits .or .u8 (Yb .u8 a1) 128)]) fun v3=>Ya (Zwb 7) fun v4=>Zfc.l1 j (shr .u64 a1 7) v3 else some (a1,a2)
def Zfc (k:Nat) (a1:Int):Option (Str):=Ya (Zwb 1) fun v2=>Ya (Zfc.j0 a1 (shl .u64 (Yb .u64 a1) 1)) fun y3=>Ya (Zfc.l1 k y3 []) fun y4=>Ya (Zt 1 y4.2 [(Yb .u8 y4.1)]) fun v5=>some (Zob v5)
def Zfc.con (k:Nat):Con:=Sig.con { ps:=[.val false (.int .i64) (ros (.int .i64))],rs:=[.val false [.v .str]],ntmps:=28 } (fun x=>Zfc k x)
def Zfc.cok (k:Nat):=cX cN
def Zfc.j0.s (k:Nat):Summ:=lq 28 { tmps:=[(0,.one (.v (.int .i64))),(3,.one (.v (.int .u64)))],slots:=[],nb:=0 } [(.nrm,{ tmps:=[(3,.one (.v (.int .u64)))],slots:=[],nb:=0 })] (fun x=>Zfc.j0 x.1 x.2)
def Zfc.j0.ok (k:Nat):=(jA (Zfc.cok k):Zj Yc _ (cL (cR (cR (cB Tryz.f255)))) (Zfc.j0.s k))
def Zfc.l1.s (k:Nat):Summ:=lp 28 { tmps:=[(3,.one (.v (.int .u64))),(4,.one (.own 0))],slots:=[(0,.arr false 5 (.int .u8))],nb:=1 } [(.exit 0,{ tmps:=[(3,.one (.v (.int .u64))),(4,.one (.own 1))],slots:=[(1,.arr false 5 (.int .u8))],nb:=2 })] (fun j x=>Zfc.l1 j x.1 x.2) k
def Zfc.l1.ok (k:Nat):=(lA (Zfc.cok k):Zj Yc _ (.loop (cO (cO (cL (cR (cR (cR (cR (cB Tryz.f255))))))))) (Zfc.l1.s k))
theorem Zfc.ok (k:Nat):Ze Yc 255 (Zfc.con k):=fP (.two .auto (.two .auto (.two (.sum (Zfc.j0.s k)) (.two .auto (.two (.one (.sum (Zfc.l1.s k))) .auto))))) (Zfc.cok k) Tryz.func255 (sC (Zfc.j0.ok k) (sC (Zfc.l1.ok k) sN))
def Znj (k:Nat) (a1:Str):Option (Str):=Ya (Zfc k ((a1.length):Int)) fun v2=>Ya (Zsc v2 a1) fun v3=>some v3
def Znj.con (k:Nat):Con:=Sig.con { ps:=[.val false .str (ros .str)],rs:=[.val false [.v .str]],ntmps:=8 } (fun x=>Znj k x)
theorem Znj.ok (k:Nat):Ze Yc 187 (Znj.con k):=fA (cX (cC (Zfc.ok k) cN)) Tryz.func187
def Zjo (k:Nat) (a1:Int) (a2:Str):Option (Str):=Ya (Zfc k a1) fun v3=>Ya (Znj k a2) fun v4=>Ya (Zsc v3 v4) fun v5=>Ya (Zoj k v5) fun v6=>some v6
def Zjo.con (k:Nat):Con:=Sig.con { ps:=[.val false (.int .i64) (ros (.int .i64)),.val false .str (ros .str)],rs:=[.val false [.v .str]],ntmps:=11 } (fun x=>Zjo k x.1 x.2)
theorem Zjo.ok (k:Nat):Ze Yc 185 (Zjo.con k):=fA (cX (cC (Znj.ok k) (cC (Zoj.ok k) (cC (Zfc.ok k) cN)))) Tryz.func185
def Zeq (k:Nat) (a1:G26) (a2:Str):Option (List Zmc):=Ya (Z2c k a1) fun v3=>let e4:=Yb .i64 (v3.1+1);bif decide (1000000<e4) then some ([]) else let e5:=(true,(0,[]));bif v3.2.2.2==0 then Ya (Zjo k e4 a2) fun v6=>some ([(false,(1,v6)),e5]) else Ya (Zjo k e4 a2) fun v7=>some ([(false,(0,v7)),e5])
def Zeq.con (k:Nat):Con:=Sig.con { ps:=[.val true T26 (ros T26),.val false .str (ros .str)],rs:=[.val false [.own 151 Z6b]],ntmps:=28 } (fun x=>Zeq k x.1 x.2)
theorem Zeq.ok (k:Nat):Ze Yc 96 (Zeq.con k):=fA (cXr true false (cC (Z2c.ok k) (cC (Zjo.ok k) cN))) Tryz.func96
def Z1d.l0 (k:Nat):Nat→Str→List Int→Int→Int→Option (Str)
 | 0,_,_,_,_=>none
 | j+1,a1,a2,a3,a4=>bif decide (a4<a3) then Ya (at? a2 a4) fun v5=>Ya (Zfc k v5) fun v6=>Ya (Zsc a1 v6) fun v7=>Z1d.l0 k j v7 a2 a3 (Yb .i64 (a4+1)) else some a1
def Z1d (k:Nat) (a1:List Int):Option (Str):=Ya (Z1d.l0 k k [] a1 ((a1.length):Int) 0) fun y2=>some y2
def Z1d.con (k:Nat):Con:=Sig.con { ps:=[.val false (.sl (.int .i64)) (ros (.sl (.int .i64)))],rs:=[.val false [.v .str]],ntmps:=18 } (fun x=>Z1d k x)
def Z1d.cok (k:Nat):=cX (cC (Zfc.ok k) cN)
def Z1d.l0.s (k:Nat):Summ:=lp 18 { tmps:=[(3,.one (.v .str)),(6,.one (.bor (.int .i64))),(7,.one (.v (.int .i64))),(8,.one (.v (.int .i64)))],slots:=[],nb:=0 } [(.exit 0,{ tmps:=[(3,.one (.v .str))],slots:=[],nb:=0 })] (fun j x=>Z1d.l0 k j x.1 x.2.1 x.2.2.1 x.2.2.2) k
def Z1d.l0.ok (k:Nat):=(lA (Z1d.cok k):Zj Yc _ (.loop (cO (cO (cR (cL (cR (cR (cB Tryz.f186)))))))) (Z1d.l0.s k))
theorem Z1d.ok (k:Nat):Ze Yc 186 (Z1d.con k):=fP (.two .auto (.two .auto (.two (.two .auto (.one (.sum (Z1d.l0.s k)))) .auto))) (Z1d.cok k) Tryz.func186 (sC (Z1d.l0.ok k) sN)
def Zko (k:Nat) (a1:G46):Option (Str):=Ya (Zoc k a1.2.2.2.2.2.2.1) fun v2=>Ya (Zoc k a1.2.2.2.2.2.2.2) fun v3=>Ya (Z1d k [a1.1,a1.2.1,a1.2.2.1,a1.2.2.2.1,a1.2.2.2.2.1,v2,v3]) fun v4=>Ya (Znj k a1.2.2.2.2.2.1) fun v5=>Ya (Zsc v4 v5) fun v6=>some v6
def Zko.con (k:Nat):Con:=Sig.con { ps:=[.val true T46 (ros T46)],rs:=[.val false [.v .str]],ntmps:=25 } (fun x=>Zko k x)
theorem Zko.ok (k:Nat):Ze Yc 97 (Zko.con k):=fA (cXr true false (cC (Zoc.ok k) (cC (Z1d.ok k) (cC (Znj.ok k) cN)))) Tryz.func97
def Zke (k:Nat) (a1:G28) (a2:G46):Option (List Zmc):=Ya (Zko k a2) fun v3=>Ya (Zeq k a1.2 v3) fun v4=>some v4
def Zke.con (k:Nat):Con:=Sig.con { ps:=[.val true T28 (ros T28),.val true T46 (ros T46)],rs:=[.val false [.own 151 Z6b]],ntmps:=10 } (fun x=>Zke k x.1 x.2)
theorem Zke.ok (k:Nat):Ze Yc 131 (Zke.con k):=fA (cXr true false (cC (Zeq.ok k) (cC (Zko.ok k) cN))) Tryz.func131
def Zzj (a:List Int):Option (List Int):=Ya (Zt 8 [] a) fun y=>some y
def Zzj.sig:Sig:={ ps:=[.val false (.sl (.int .i64)) (ros (.sl (.int .i64)))],rs:=[.val false [.own 2 (.int .i64)]],ntmps:=8 }
def Zzj.con (k:Nat):Con:=Zzj.sig.con (fun x=>Zzj x)
theorem Zzj.ok (k:Nat):Ze Yc 221 (Zzj.con k):=
 Zjz (e:=2) (C:={ ti:=TAB,con:=Z3l [] }) (s:=Zzj.sig) (G:=fun x=>Zzj x) (Zdu Z6t trivial) Tryz.func221 (by kernel_rfl) rfl (by kernel_rfl) (by kernel_rfl) (by kernel_rfl) rfl rfl rfl rfl rfl rfl (by kernel_rfl) (by kernel_rfl)
  (fun x=>⟨_,_,.inl rfl⟩) (fun x y h=>Eq.trans (b:=Zzj x) (by kernel_rfl) h) (fun x y h hl=>by
   have e:x=([]:List Int):=hl (.int .i64) x (.inl (by kernel_rfl));subst e;exact Eq.trans (b:=Zzj []) (by kernel_rfl) h)
def Zpj (a1:G46):Option (Int×Int×Int×Int×Int×Str×List Int×List Int):=Ya (Zzj a1.2.2.2.2.2.2.1) fun v2=>some (1,0,0,0,0,[],v2,[])
def Zpj.con (k:Nat):Con:=Sig.con { ps:=[.val true T46 (ros T46)],rs:=[.val true [.v (.int .i64),.v (.int .i64),.v (.int .i64),.v (.int .i64),.v (.int .i64),.v .str,.own 2 (.int .i64),.own 2 (.int .i64)]],ntmps:=7 } (fun x=>Zpj x)
theorem Zpj.ok (k:Nat):Ze Yc 132 (Zpj.con k):=fA (cXr true false (cC (Zzj.ok k) cN)) Tryz.func132
def Zle.l0:Nat→Int→List G52→Int→Int→Option (Int)
 | 0,_,_,_,_=>none
 | j+1,a1,a2,a3,a4=>bif decide (a4<a3) then Ya (at? a2 a4) fun v5=>let e6:=Yb .i64 (a4+1);bif v5.1==5 then Zle.l0 j e6 a2 a3 e6 else Zle.l0 j a1 a2 a3 e6 else some a1
def Zle (k:Nat) (a1:List G52):Option (Int):=Ya (Zle.l0 k 0 a1 ((a1.length):Int) 0) fun y2=>some y2
def Zle.con (k:Nat):Con:=Sig.con { ps:=[.val false (.sl T52) (ros (.sl T52))],rs:=[.val false [.v (.int .i64)]],ntmps:=20 } (fun x=>Zle k x)
def Zle.cok (k:Nat):=cX cN
def Zle.l0.s (k:Nat):Summ:=lp 20 { tmps:=[(3,.one (.v (.int .i64))),(6,.one (.bor T52)),(7,.one (.v (.int .i64))),(8,.one (.v (.int .i64)))],slots:=[],nb:=0 } [(.exit 0,{ tmps:=[(3,.one (.v (.int .i64)))],slots:=[],nb:=0 })] (fun j x=>Zle.l0 j x.1 x.2.1 x.2.2.1 x.2.2.2) k
def Zle.l0.ok (k:Nat):=(lA (Zle.cok k):Zj Yc _ (.loop (cO (cO (cR (cL (cR (cR (cB Tryz.f136)))))))) (Zle.l0.s k))
theorem Zle.ok (k:Nat):Ze Yc 136 (Zle.con k):=fP (.two .auto (.two .auto (.two (.two .auto (.one (.sum (Zle.l0.s k)))) .auto))) (Zle.cok k) Tryz.func136 (sC (Zle.l0.ok k) sN)
def Zgq (k:Nat) (a1:Str) (a2:Int):Option (Bool×Int×Str):=Ya (Zbl k a1) fun v3=>Ya (Zgc k (v3.1,(0,false))) fun v4=>Ya (Zgc k v4.2) fun v5=>Ya (Z8g k v5.2) fun v6=>bif (((v3.2 != 0)||v6.2.2.2)||(v6.2.2.1 != ((v3.1.length):Int)))||(v4.1 != a2) then some (true,0,[]) else Ya (Zyi a2) fun v7=>bif !v7 then some (true,0,[]) else Ya (Z3 v5.1 0 39) fun v8=>bif (!v8)||(((v6.1.length):Int) != 8) then some (true,0,[]) else some (false,v5.1,v6.1)
def Zgq.con (k:Nat):Con:=Sig.con { ps:=[.val false .str (ros .str),.val false (.int .i64) (ros (.int .i64))],rs:=[.val true [.v .bool,.v (.int .i64),.v .str]],ntmps:=66 } (fun x=>Zgq k x.1 x.2)
theorem Zgq.ok (k:Nat):Ze Yc 146 (Zgq.con k):=fA (cX (cC (Z3.ok k) (cC (Zyi.ok k) (cC (Zgc.ok k) (cC (Z8g.ok k) (cC (Zbl.ok k) cN)))))) Tryz.func146
def Z1c.l0 (k:Nat):Nat→List Int→Int→Int→Int→List Str→List Zq→List Zmc→Option ((Int×List Str×List Zq×List Zmc))
 | 0,_,_,_,_,_,_,_=>none
 | j+1,a1,a2,a3,a4,a5,a6,a7=>bif decide (a3<a2) then Ya (at? a1 a3) fun v8=>let e9:=(a4,(a5,a6));Ya (Zmj k e9 v8) fun v10=>let e11:=Yb .i64 (a3+1);bif !(v10==[]) then Ya (Z1h e9 v8) fun v12=>Ya (Zt 32 a7 ([(false,(v12,[]))])) fun v13=>Z1c.l0 k j a1 a2 e11 a4 a5 a6 v13 else Z1c.l0 k j a1 a2 e11 a4 a5 a6 a7 else some (a4,a5,a6,a7)
def Z1c (k:Nat) (a1:G28) (a2:G46):Option (List Zmc):=let e3:=(true,(0,[]));bif a2.1==2 then Ya (Zad k a1 a2) fun v4=>Ya (Zle k v4) fun v5=>Ya (Zpb a2.2.2.2.2.2.2.2 (Yb .i64 (a2.2.2.2.1+v5)) ((a2.2.2.2.2.2.2.2.length):Int)) fun v6=>Ya (Z1c.l0 k k v6 ((v6.length):Int) 0 a1.1 a1.2.1 a1.2.2 []) fun y7=>bif decide (0<((y7.2.2.2.length):Int)) then Ya (Zt 32 y7.2.2.2 [e3]) fun v8=>some v8 else some y7.2.2.2 else bif a2.1==3 then Ya (Zke k a1 (4,(2,a2.2.2))) fun v9=>some v9 else bif a2.1==4 then bif a2.2.1==0 then Ya (Zpj a2) fun v10=>Ya (Zke k a1 v10) fun v11=>some v11 else Ya (Zke k a1 (a2.1,((Yb .i64 (a2.2.1-1)),a2.2.2))) fun v12=>some v12 else bif a2.1==5 then Ya (Zig k a1.2 2) fun v13=>Ya (Zgq k v13 a2.2.2.2.2.1) fun v14=>bif v14.1||(a2.2.2.2.2.1==40) then some ([]) else Ya (Zbn a1.2 v14.2.1) fun v15=>bif !v15 then some ([]) else Ya (Zke k a1 (a2.1,(a2.2.1,(a2.2.2.1,(a2.2.2.2.1,((Yb .i64 (a2.2.2.2.2.1+1)),a2.2.2.2.2.2)))))) fun v16=>Ya (Zt 32 [v14,e3] v16) fun v17=>some v17 else some ([])
def Z1c.con (k:Nat):Con:=Sig.conR { ps:=[.val true T28 (Z9g T28),.val true T46 (ros T46)],rs:=[.val false [.own 151 Z6b]],ntmps:=105 } (fun x=>Z1c k x.1 x.2)
def Z1c.cok (k:Nat):=cX (cC (Zad.ok k) (cC (Zig.ok k) (cC (Zke.ok k) (cC (Zpj.ok k) (cC (Zle.ok k) (cC (Zmj.ok k) (cC (Z1h.ok k) (cC (Zgq.ok k) (cC (Zbn.ok k) cN)))))))))
def Z1c.l0.s (k:Nat):Summ:=lp 105 { tmps:=[(2,.one (.ptr 0 0)),(5,.one (.own 3)),(22,.one (.bor (.int .i64))),(23,.one (.v (.int .i64))),(24,.one (.v (.int .i64)))],slots:=[(0,.box 28 [.v (.int .i64),.v (.sl .str),.v (.sl Zo)]),(3,.arr false 151 Z6b)],nb:=4 } [(.exit 1,{ tmps:=[(5,.one (.own 4))],slots:=[(0,.box 28 [.v (.int .i64),.v (.sl .str),.v (.sl Zo)]),(4,.arr false 151 Z6b)],nb:=5 })] (fun j x=>Z1c.l0 k j x.1 x.2.1 x.2.2.1 x.2.2.2.1 x.2.2.2.2.1 x.2.2.2.2.2.1 x.2.2.2.2.2.2) k
def Z1c.l0.ok (k:Nat):=(lA (Z1c.cok k):Zj Yc _ (.loop (cO (cO (cR (cL (cR (cL (cR (cO (cR (cL (cR (cB Tryz.f64))))))))))))) (Z1c.l0.s k))
theorem Z1c.ok (k:Nat):Ze Yc 64 (Z1c.con k):=Zfab (fP (.two .auto (.two (.two .auto (.one (.two .auto (.two (.two .auto (.two (.two .auto (.one (.sum (Z1c.l0.s k)))) .auto)) .auto)))) .auto)) (Z1c.cok k) Tryz.func64 (sC (Z1c.l0.ok k) sN))
def Z5p (k:Nat) (a1:List Int) (a2:List Int):Option (List Int):=Ya (Zoc k a1) fun v3=>Ya (Zoc k a2) fun v4=>Ya (Zld k (intBits .andNot .i64 16777215 (intBits .or .i64 v3 v4))) fun v5=>some v5
def Z5p.con (k:Nat):Con:=Sig.con { ps:=[.val false (.sl (.int .i64)) (ros (.sl (.int .i64))),.val false (.sl (.int .i64)) (ros (.sl (.int .i64)))],rs:=[.val false [.own 2 (.int .i64)]],ntmps:=12 } (fun x=>Z5p k x.1 x.2)
theorem Z5p.ok (k:Nat):Ze Yc 66 (Z5p.con k):=fA (cX (cC (Zld.ok k) (cC (Zoc.ok k) cN))) Tryz.func66
def Zye.l0:Nat→List Int→Int→Int→List Zyk→Option ((List Zyk))
 | 0,_,_,_,_=>none
 | j+1,a1,a2,a3,a4=>bif decide (a3<a2) then Ya (at? a1 a3) fun v5=>let e6:=Yb .i64 (((a4.length):Int)-1);let e7:=Yb .i64 (a3+1);let e8:=Zt 16 a4 [(v5,1)];bif decide (0≤e6) then let e9:=at? a4 e6;Ya (e9) fun v10=>Ya (e9) fun v11=>Ya (e9) fun v12=>Ya (e9) fun v13=>bif (Yb .i64 (v11.1+v13.2))==v5 then Ya (e9) fun v14=>Ya (e9) fun v15=>Ya (e9) fun v16=>Ya (e9) fun v17=>Zye.l0 j a1 a2 e7 (Yk a4 (Yj e6) (v17.1,(Yb .i64 (v15.2+1)))) else Ya (e8) fun v18=>Zye.l0 j a1 a2 e7 v18 else Ya (e8) fun v19=>Zye.l0 j a1 a2 e7 v19 else some a4
def Zye (k:Nat) (a1:List Int):Option (List Zyk):=Ya (Zye.l0 k a1 ((a1.length):Int) 0 []) fun y2=>some y2
def Zye.con (k:Nat):Con:=Sig.con { ps:=[.val false (.sl (.int .i64)) (ros (.sl (.int .i64)))],rs:=[.val false [.own 243 Zsi]],ntmps:=48 } (fun x=>Zye k x)
def Zye.cok (k:Nat):=cX cN
def Zye.l0.s (k:Nat):Summ:=lp 48 { tmps:=[(3,.one (.own 0)),(7,.one (.bor (.int .i64))),(8,.one (.v (.int .i64))),(9,.one (.v (.int .i64)))],slots:=[(0,.arr false 243 Zsi)],nb:=1 } [(.exit 0,{ tmps:=[(3,.one (.own 1))],slots:=[(1,.arr false 243 Zsi)],nb:=2 })] (fun j x=>Zye.l0 j x.1 x.2.1 x.2.2.1 x.2.2.2) k
def Zye.l0.ok (k:Nat):=(lA (Zye.cok k):Zj Yc _ (.loop (cO (cO (cR (cL (cR (cR (cB Tryz.f223)))))))) (Zye.l0.s k))
theorem Zye.ok (k:Nat):Ze Yc 223 (Zye.con k):=fP (.two .auto (.two .auto (.two (.two .auto (.one (.sum (Zye.l0.s k)))) .auto))) (Zye.cok k) Tryz.func223 (sC (Zye.l0.ok k) sN)
def Z2b.l0:Nat→Int→Int→Int→Int→List Int→Option ((Int×Int×List Int))
 | 0,_,_,_,_,_=>none
 | j+1,a1,a2,a3,a4,a5=>bif decide (a2<a1) then Ya (Zt 8 a5 [(Yb .i64 (a3+a2))]) fun v6=>Z2b.l0 j a1 (Yb .i64 (a2+1)) a3 a4 v6 else some (a3,a4,a5)
def Z2b.l1 (k:Nat):Nat→Int→Int→Int→List Zyk→Option (Unit ⊕ (Bool×List Int))
 | 0,_,_,_,_=>none
 | j+1,a1,a2,a3,a4=>bif decide (a3<a2) then Ya (at? a4 a3) fun v5=>Ya (at? a4 a3) fun v6=>bif decide (a1≤v6.2) then Ya (Z2b.l0 k a1 0 v6.1 v6.2 []) fun y7=>some (.inr (true,y7.2.2)) else Z2b.l1 k j a1 a2 (Yb .i64 (a3+1)) a4 else some (.inl ())
def Z2b (k:Nat) (a1:List Int) (a2:List Int) (a3:Int):Option (List Int×Bool):=Ya (Z5p k a1 a2) fun v4=>Ya (Zjk v4) fun v5=>bif decide (v5<a3) then some ([],false) else Ya (Zye k v4) fun v6=>Ya (Z2b.l1 k k a3 ((v6.length):Int) 0 v6) fun
  | .inl y7=>Ya (Zpb v4 0 a3) fun v8=>some (v8,true)
  | .inr y9=>some (y9.2,y9.1)
def Z2b.con (k:Nat):Con:=Sig.con { ps:=[.val false (.sl (.int .i64)) (ros (.sl (.int .i64))),.val false (.sl (.int .i64)) (ros (.sl (.int .i64))),.val false (.int .i64) (ros (.int .i64))],rs:=[.val false [.v (.sl (.int .i64))],.val false [.v .bool]],ntmps:=48 } (fun x=>Z2b k x.1 x.2.1 x.2.2)
def Z2b.cok (k:Nat):=cX (cC (Z5p.ok k) (cC (Zjk.ok k) (cC (Zye.ok k) cN)))
def Z2b.l0.s (k:Nat):Summ:=lp 48 { tmps:=[(10,.one (.ptr 3 0)),(11,.one (.own 4)),(31,.one (.v (.int .i64))),(32,.one (.v (.int .i64)))],slots:=[(3,.box 243 [.v (.int .i64),.v (.int .i64)]),(4,.arr false 2 (.int .i64))],nb:=5 } [(.exit 2,{ tmps:=[(11,.one (.own 5))],slots:=[(3,.box 243 [.v (.int .i64),.v (.int .i64)]),(5,.arr false 2 (.int .i64))],nb:=6 })] (fun j x=>Z2b.l0 j x.1 x.2.1 x.2.2.1 x.2.2.2.1 x.2.2.2.2) k
def Z2b.l0.ok (k:Nat):=(lA (Z2b.cok k):Zj Yc _ (.loop (cO (cO (cR (cL (cR (cL (cR (cR (cO (cL (cR (cR (cO (cO (cR (cL (cR (cR (cR (cB Tryz.f138))))))))))))))))))))) (Z2b.l0.s k))
def Z2b.l1.s (k:Nat):Summ:=lp 48 { tmps:=[(2,.one (.v (.int .i64))),(21,.one (.own 2)),(22,.one (.v (.int .i64))),(23,.one (.v (.int .i64)))],slots:=[(2,.arr false 243 Zsi)],nb:=3 } [(.exit 0,{ tmps:=[],slots:=[],nb:=3 }),(.ret,{ tmps:=[(6,.one (.own 3)),(7,.one (.v .bool))],slots:=[(3,.arr false 2 (.int .i64))],nb:=4 })] (fun j x=>Z2b.l1 k j x.1 x.2.1 x.2.2.1 x.2.2.2) k
def Z2b.l1.ok (k:Nat):=(lP (.two .auto (.two .auto (.two (.one (.two .auto (.two .auto (.two (.two .auto (.two (.two .auto (.one (.sum (Z2b.l0.s k)))) .auto)) .auto)))) .auto))) (Z2b.cok k) (sC (Z2b.l0.ok k) sN):Zj Yc _ (.loop (cO (cO (cR (cL (cR (cR (cR (cB Tryz.f138))))))))) (Z2b.l1.s k))
theorem Z2b.ok (k:Nat):Ze Yc 138 (Z2b.con k):=fP (.two .auto (.two .auto (.two .auto (.two (.two .auto (.one (.sum (Z2b.l1.s k)))) .auto)))) (Z2b.cok k) Tryz.func138 (sC (Z2b.l1.ok k) sN)
def Zve.l0:Nat→Int→List Str→List Zq→List Int→Int→Int→List Zmc→Option ((List Zmc))
 | 0,_,_,_,_,_,_,_=>none
 | j+1,a1,a2,a3,a4,a5,a6,a7=>bif decide (a6<a5) then Ya (at? a4 a6) fun v8=>Ya (Z1h (a1,(a2,a3)) v8) fun v9=>Ya (Zt 32 a7 ([(false,(v9,[]))])) fun v10=>Zve.l0 j a1 a2 a3 a4 a5 (Yb .i64 (a6+1)) v10 else some a7
def Zve (k:Nat) (a1:G28) (a2:G46) (a3:G54):Option (List Zmc×Str×List Int×Int):=bif a2.1 != 1 then some ([],[],[],10) else Ya (Z2b k a2.2.2.2.2.2.2.1 [] (Yb .i64 (a3.2.1+a3.2.2.1))) fun v4=>bif !v4.2 then some ([],[],[],11) else Ya (Zve.l0 k a1.1 a1.2.1 a1.2.2 v4.1 ((v4.1.length):Int) 0 []) fun y5=>Ya (Zt 32 y5 ([(true,(0,[]))])) fun v6=>Ya (Zke k a1 (2,(0,(a3.2.1,(a3.2.2.1,(0,(a3.2.2.2.1,(a2.2.2.2.2.2.2.1,v4.1)))))))) fun v7=>Ya (Zt 32 v6 v7) fun v8=>some (v8,[],[],0)
def Zve.con (k:Nat):Con:=Sig.con { ps:=[.val true T28 (ros T28),.val true T46 (ros T46),.val true T54 (ros T54)],rs:=[.val true [.own 151 Z6b,.v .str,.own 2 (.int .i64),.v (.int .i64)]],ntmps:=63 } (fun x=>Zve k x.1 x.2.1 x.2.2)
def Zve.cok (k:Nat):=cXr true false (cC (Zke.ok k) (cC (Z2b.ok k) (cC (Z1h.ok k) cN)))
def Zve.l0.s (k:Nat):Summ:=lp 63 { tmps:=[(3,.eptr [.v (.int .i64),.bor .str,.bor Zo]),(9,.one (.own 2)),(30,.one (.v (.sl (.int .i64)))),(31,.one (.v (.int .i64))),(32,.one (.v (.int .i64)))],slots:=[(2,.arr false 151 Z6b)],nb:=3 } [(.exit 0,{ tmps:=[(9,.one (.own 3))],slots:=[(3,.arr false 151 Z6b)],nb:=4 })] (fun j x=>Zve.l0 j x.1 x.2.1 x.2.2.1 x.2.2.2.1 x.2.2.2.2.1 x.2.2.2.2.2.1 x.2.2.2.2.2.2) k
def Zve.l0.ok (k:Nat):=(lA (Zve.cok k):Zj Yc _ (.loop (cO (cO (cR (cL (cR (cR (cR (cR (cR (cB Tryz.f128))))))))))) (Zve.l0.s k))
theorem Zve.ok (k:Nat):Ze Yc 128 (Zve.con k):=fP (.two .auto (.two .auto (.two .auto (.two .auto (.two .auto (.two (.two .auto (.one (.sum (Zve.l0.s k)))) .auto)))))) (Zve.cok k) Tryz.func128 (sC (Zve.l0.ok k) sN)
def Zal (a1:List G52):Option (Int):=some ((a1.length):Int)
def Zal.con (k:Nat):Con:=Sig.con { ps:=[.val false (.sl T52) (ros (.sl T52))],rs:=[.val false [.v (.int .i64)]],ntmps:=5 } (fun x=>Zal x)
theorem Zal.ok (k:Nat):Ze Yc 135 (Zal.con k):=fA (cX cN) Tryz.func135
def Zmq (k:Nat) (a1:G52):Option (Str):=Ya (Z1d k [a1.1,a1.2.1,a1.2.2.1]) fun v2=>Ya (Znj k a1.2.2.2) fun v3=>Ya (Zsc v2 v3) fun v4=>some v4
def Zmq.con (k:Nat):Con:=Sig.con { ps:=[.val true T52 (ros T52)],rs:=[.val false [.v .str]],ntmps:=15 } (fun x=>Zmq k x)
theorem Zmq.ok (k:Nat):Ze Yc 269 (Zmq.con k):=fA (cX (cC (Z1d.ok k) (cC (Znj.ok k) cN))) Tryz.func269
def Zkq (k:Nat) (a1:Int) (a2:G52):Option (Str):=Ya (Zfc k a1) fun v3=>Ya (Zmq k a2) fun v4=>Ya (Zsc v3 v4) fun v5=>Ya (Zoj k v5) fun v6=>some v6
def Zkq.con (k:Nat):Con:=Sig.con { ps:=[.val false (.int .i64) (ros (.int .i64)),.val true T52 (ros T52)],rs:=[.val false [.v .str]],ntmps:=11 } (fun x=>Zkq k x.1 x.2)
theorem Zkq.ok (k:Nat):Ze Yc 219 (Zkq.con k):=fA (cX (cC (Zoj.ok k) (cC (Zfc.ok k) (cC (Zmq.ok k) cN)))) Tryz.func219
def Z0p (k:Nat) (a1:G28) (a2:G46) (a3:List G52) (a4:G52):Option (List Zmc×Str×List Int×Int):=bif a2.1 != 2 then some ([],[],[],10) else Ya (Zal a3) fun v5=>bif v5==a2.2.2.1 then some ([],[],[],9) else Ya (Zt 40 a3 [a4]) fun v6=>Ya (Zgd k v6 a1.1) fun v7=>bif v7 != 0 then some ([],[],[],v7) else Ya (at? a2.2.2.2.2.2.2.2 (Yb .i64 (a2.2.2.2.1+v5))) fun v8=>Ya (Z1h a1 v8) fun v9=>Ya (Zkq k v5 a4) fun v10=>let e11:=[(false,(v9,v10))];bif a4.1==5 then Ya (Zt 32 e11 ([(true,(0,[]))])) fun v12=>some (v12,[],[],0) else some (e11,[],[],0)
def Z0p.con (k:Nat):Con:=Sig.con { ps:=[.val true T28 (ros T28),.val true T46 (ros T46),.mv 52 T52,.val true T52 (ros T52)],rs:=[.val true [.own 151 Z6b,.v .str,.own 2 (.int .i64),.v (.int .i64)]],ntmps:=58 } (fun x=>Z0p k x.1 x.2.1 x.2.2.1 x.2.2.2)
theorem Z0p.ok (k:Nat):Ze Yc 129 (Z0p.con k):=fA (cXr true false (cC (Zgd.ok k) (cC (Zal.ok k) (cC (Z1h.ok k) (cC (Zkq.ok k) cN))))) Tryz.func129
def strings_Repeat (a:Str) (n:Int):Option Str:=if 0≤n∧(a.length:Int)*n≤140737488355328∧n≤9223372036854775807 then some (Lib.repeatL a n.toNat) else none
def strings_Repeat.sig:Sig:={ ps:=[.val false .str (ros .str),.val false (.int .i64) (ros (.int .i64))],rs:=[.val false [.v .str]],ntmps:=0 }
def strings_Repeat.con (k:Nat):Con:=strings_Repeat.sig.con (fun x=>strings_Repeat x.1 x.2)
theorem strings_Repeat.ok (k:Nat):Ze Yc 294 (strings_Repeat.con k):=Z5kb (Zi4 Tryz.func294 (by kernel_rfl) (show Tryz.f294.body=some (cB Tryz.f294) by kernel_rfl)) (by kernel_rfl) (by kernel_rfl) (by
 intro (x:Str×Int) (y:Str) w h
 obtain ⟨a,n⟩:=x
 replace h:strings_Repeat a n=some y:=h
 unfold strings_Repeat at h
 split at h
 ·rename_i h0
  obtain ⟨h0,h1,h2⟩:=h0;injection h with h
  subst h;obtain ⟨c,rfl⟩:∃c:Nat,n=(c:Int):=⟨n.toNat,by omega⟩;have h3:((a.length*c:Nat):Int)≤140737488355328:=by rw [Int.natCast_mul];exact h1
  have h1':a.length*c≤140737488355328:=by omega
  refine (Tryz.strings_Repeat (ba a) c w (by omega) h1').mono ?_;rintro e w' ⟨rfl,bel⟩;exact ⟨[.string (ba (Lib.repeatL a c))],rfl,rfl,rfl,bel⟩
 ·cases h)
def Z0d.l0:Nat→Int→Int→List Int→Option ((List Int))
 | 0,_,_,_=>none
 | j+1,a1,a2,a3=>bif decide (0≤a2) then Ya (at? a3 a2) fun v4=>Ya (at? a3 a2) fun v5=>Ya (Zwb 8) fun v6=>Z0d.l0 j (shr .u64 a1 8) (Yb .i64 (a2-1)) (Yk a3 (Yj a2) (Yb .u8 a1)) else some a3
def Z0d (k:Nat) (a1:Int) (a2:Int):Option (Str):=Ya (Z3g 1 a2 a2 0) fun v3=>Ya (Z0d.l0 k a1 (Yb .i64 (a2-1)) v3) fun y4=>some (Zob y4)
def Z0d.con (k:Nat):Con:=Sig.con { ps:=[.val false (.int .u64) (ros (.int .u64)),.val false (.int .i64) (ros (.int .i64))],rs:=[.val false [.v .str]],ntmps:=24 } (fun x=>Z0d k x.1 x.2)
def Z0d.cok (k:Nat):=cX cN
def Z0d.l0.s (k:Nat):Summ:=lp 24 { tmps:=[(0,.one (.v (.int .u64))),(5,.one (.own 1)),(6,.one (.v (.int .i64)))],slots:=[(1,.arr false 5 (.int .u8))],nb:=2 } [(.exit 0,{ tmps:=[(5,.one (.own 2))],slots:=[(2,.arr false 5 (.int .u8))],nb:=3 })] (fun j x=>Z0d.l0 j x.1 x.2.1 x.2.2) k
def Z0d.l0.ok (k:Nat):=(lA (Z0d.cok k):Zj Yc _ (.loop (cO (cO (cR (cL (cR (cR (cB Tryz.f295)))))))) (Z0d.l0.s k))
theorem Z0d.ok (k:Nat):Ze Yc 295 (Z0d.con k):=fP (.two .auto (.two .auto (.two (.two .auto (.one (.sum (Z0d.l0.s k)))) .auto))) (Z0d.cok k) Tryz.func295 (sC (Z0d.l0.ok k) sN)
def Z3p (a1:Str):Option (Int):=Ya (at? a1 0) fun v2=>Ya (Zwb 24) fun v3=>Ya (at? a1 1) fun v4=>Ya (Zwb 16) fun v5=>Ya (at? a1 2) fun v6=>Ya (Zwb 8) fun v7=>Ya (at? a1 3) fun v8=>some (intBits .or .u32 (intBits .or .u32 (intBits .or .u32 (shl .u32 (Yb .u32 (v2.toNat:Int)) 24) (shl .u32 (Yb .u32 (v4.toNat:Int)) 16)) (shl .u32 (Yb .u32 (v6.toNat:Int)) 8)) (Yb .u32 (v8.toNat:Int)))
def Z3p.con (k:Nat):Con:=Sig.con { ps:=[.val false .str (ros .str)],rs:=[.val false [.v (.int .u32)]],ntmps:=21 } (fun x=>Z3p x)
theorem Z3p.ok (k:Nat):Ze Yc 311 (Z3p.con k):=fA (cX cN) Tryz.func311
def Zhs (a1:Int) (a2:Int):Option (Int):=let e3:=intBits .and .u64 (Yb .u64 a2) 31;Ya (Zwb e3) fun v4=>let e5:=Yb .u64 (32-e3);Ya (Zwb e5) fun v6=>some (intBits .or .u32 (shl .u32 a1 e3) (shr .u32 a1 e5))
def Zhs.con (k:Nat):Con:=Sig.con { ps:=[.val false (.int .u32) (ros (.int .u32)),.val false (.int .i64) (ros (.int .i64))],rs:=[.val false [.v (.int .u32)]],ntmps:=17 } (fun x=>Zhs x.1 x.2)
theorem Zhs.ok (k:Nat):Ze Yc 321 (Zhs.con k):=fA (cX cN) Tryz.func321
def Zei (a1:Int) (a2:Int):Option (Int):=Ya (Zhs a1 (Yb .i64 (0-a2))) fun v3=>some v3
def Zei.con (k:Nat):Con:=Sig.con { ps:=[.val false (.int .u32) (ros (.int .u32)),.val false (.int .i64) (ros (.int .i64))],rs:=[.val false [.v (.int .u32)]],ntmps:=9 } (fun x=>Zei x.1 x.2)
theorem Zei.ok (k:Nat):Ze Yc 312 (Zei.con k):=fA (cX (cC (Zhs.ok k) cN)) Tryz.func312
def Zsb.l0:Nat→Str→Int→List Int→Option ((List Int))
 | 0,_,_,_=>none
 | j+1,a1,a2,a3=>bif decide (a2<64) then let e4:=Yb .i64 (a2+1);bif decide (a2<16) then Ya (Zpb a1 (Yb .i64 (4*a2)) ((a1.length):Int)) fun v5=>Ya (Z3p v5) fun v6=>Ya (at? a3 a2) fun v7=>Ya (Zmt a3 a2 v6) fun v8=>Zsb.l0 j a1 e4 v8 else let e9:=at? a3 (Yb .i64 (a2-15));Ya (e9) fun v10=>Ya (e9) fun v11=>let e12:=at? a3 (Yb .i64 (a2-2));Ya (e12) fun v13=>Ya (e12) fun v14=>Ya (Zei v11 7) fun v15=>Ya (Zei v11 18) fun v16=>Ya (Zwb 3) fun v17=>Ya (Zei v14 17) fun v18=>Ya (Zei v14 19) fun v19=>Ya (Zwb 10) fun v20=>let e21:=at? a3 (Yb .i64 (a2-16));Ya (e21) fun v22=>Ya (e21) fun v23=>let e24:=at? a3 (Yb .i64 (a2-7));Ya (e24) fun v25=>Ya (e24) fun v26=>Ya (at? a3 a2) fun v27=>Ya (Zmt a3 a2 (Yb .u32 ((Yb .u32 ((Yb .u32 (v23+(intBits .xor .u32 (intBits .xor .u32 v15 v16) (shr .u32 v11 3))))+v26))+(intBits .xor .u32 (intBits .xor .u32 v18 v19) (shr .u32 v14 10))))) fun v28=>Zsb.l0 j a1 e4 v28 else some a3
def Zsb.l1:Nat→Int→Int→Int→Int→Int→Int→Int→Int→Int→List Int→Option ((Int×Int×Int×Int×Int×Int×Int×Int))
 | 0,_,_,_,_,_,_,_,_,_,_=>none
 | j+1,a1,a2,a3,a4,a5,a6,a7,a8,a9,a10=>bif decide (a9<64) then Ya (Zei a5 6) fun v11=>Ya (Zei a5 11) fun v12=>Ya (Zei a5 25) fun v13=>Ya (at? Z0n a9) fun v14=>Ya (at? a10 a9) fun v15=>Ya (at? a10 a9) fun v16=>Ya (Zei a1 2) fun v17=>Ya (Zei a1 13) fun v18=>Ya (Zei a1 22) fun v19=>let e20:=Yb .u32 ((Yb .u32 ((Yb .u32 ((Yb .u32 (a8+(intBits .xor .u32 (intBits .xor .u32 v11 v12) v13)))+(intBits .xor .u32 (intBits .and .u32 a5 a6) (intBits .and .u32 (intBits .xor .u32 (Yt .u32) a5) a7))))+v14))+v16);Zsb.l1 j (Yb .u32 (e20+(Yb .u32 ((intBits .xor .u32 (intBits .xor .u32 v17 v18) v19)+(intBits .xor .u32 (intBits .xor .u32 (intBits .and .u32 a1 a2) (intBits .and .u32 a1 a3)) (intBits .and .u32 a2 a3)))))) a1 a2 a3 (Yb .u32 (a4+e20)) a5 a6 a7 (Yb .i64 (a9+1)) a10 else some (a1,a2,a3,a4,a5,a6,a7,a8)
def Zsb.l2:Nat→Int→Int→Int→Int→Int→Int→Int→Int→Int→List Int→Option ((List Int))
 | 0,_,_,_,_,_,_,_,_,_,_=>none
 | j+1,a1,a2,a3,a4,a5,a6,a7,a8,a9,a10=>bif decide (a9<8) then Ya (at? [a1,a2,a3,a4,a5,a6,a7,a8] a9) fun v11=>Ya (at? a10 a9) fun v12=>Ya (at? a10 a9) fun v13=>Ya (at? a10 a9) fun v14=>Ya (Zmt a10 a9 (Yb .u32 (v13+v11))) fun v15=>Zsb.l2 j a1 a2 a3 a4 a5 a6 a7 a8 (Yb .i64 (a9+1)) v15 else some a10
def Zsb (k:Nat) (a1:List Int) (a2:Str):Option (List Int):=Ya (Zsb.l0 k a2 0 (Ym 64 (0:Int))) fun y3=>Ya (at? a1 0) fun v4=>Ya (at? a1 0) fun v5=>Ya (at? a1 1) fun v6=>Ya (at? a1 1) fun v7=>Ya (at? a1 2) fun v8=>Ya (at? a1 2) fun v9=>Ya (at? a1 3) fun v10=>Ya (at? a1 3) fun v11=>Ya (at? a1 4) fun v12=>Ya (at? a1 4) fun v13=>Ya (at? a1 5) fun v14=>Ya (at? a1 5) fun v15=>Ya (at? a1 6) fun v16=>Ya (at? a1 6) fun v17=>Ya (at? a1 7) fun v18=>Ya (at? a1 7) fun v19=>Ya (Zsb.l1 k v5 v7 v9 v11 v13 v15 v17 v19 0 y3) fun y20=>Ya (Zsb.l2 k y20.1 y20.2.1 y20.2.2.1 y20.2.2.2.1 y20.2.2.2.2.1 y20.2.2.2.2.2.1 y20.2.2.2.2.2.2.1 y20.2.2.2.2.2.2.2 0 a1) fun y21=>some y21
def Zsb.con (k:Nat):Con:=Sig.con { ps:=[.val false (.sl (.int .u32)) [.own 2000008],.val false .str (ros .str)],rs:=[],ntmps:=193 } (fun x=>Zsb k x.1 x.2)
def Zsb.cok (k:Nat):=cX (cC (Z3p.ok k) (cC (Zei.ok k) cN))
def Zsb.l0.s (k:Nat):Summ:=lp 193 { tmps:=[(1,.one (.v .str)),(4,.one (.own 2)),(23,.one (.v (.int .i64)))],slots:=[(2,.arr false 2000064 (.int .u32))],nb:=3 } [(.exit 0,{ tmps:=[(4,.one (.own 3))],slots:=[(3,.arr false 2000064 (.int .u32))],nb:=4 })] (fun j x=>Zsb.l0 j x.1 x.2.1 x.2.2) k
def Zsb.l0.ok (k:Nat):=(lA (Zsb.cok k):Zj Yc _ (.loop (cO (cO (cR (cL (cR (cB Y1))))))) (Zsb.l0.s k))
def Zsb.l1.s (k:Nat):Summ:=lp 193 { tmps:=[(4,.one (.own 4)),(10,.one (.v (.int .u32))),(11,.one (.v (.int .u32))),(12,.one (.v (.int .u32))),(13,.one (.v (.int .u32))),(14,.one (.v (.int .u32))),(15,.one (.v (.int .u32))),(16,.one (.v (.int .u32))),(17,.one (.v (.int .u32))),(107,.one (.v (.int .i64)))],slots:=[(4,.arr false 2000064 (.int .u32))],nb:=5 } [(.exit 2,{ tmps:=[(10,.one (.v (.int .u32))),(11,.one (.v (.int .u32))),(12,.one (.v (.int .u32))),(13,.one (.v (.int .u32))),(14,.one (.v (.int .u32))),(15,.one (.v (.int .u32))),(16,.one (.v (.int .u32))),(17,.one (.v (.int .u32)))],slots:=[],nb:=5 })] (fun j x=>Zsb.l1 j x.1 x.2.1 x.2.2.1 x.2.2.2.1 x.2.2.2.2.1 x.2.2.2.2.2.1 x.2.2.2.2.2.2.1 x.2.2.2.2.2.2.2.1 x.2.2.2.2.2.2.2.2.1 x.2.2.2.2.2.2.2.2.2) k
def Zsb.l1.ok (k:Nat):=(lA (Zsb.cok k):Zj Yc _ (.loop (cO (cO (cR (cL (cR (cR (cR (cB Y1))))))))) (Zsb.l1.s k))
def Zsb.l2.s (k:Nat):Summ:=lp 193 { tmps:=[(0,.one (.pin 0)),(178,.agg [.v (.int .u32),.v (.int .u32),.v (.int .u32),.v (.int .u32),.v (.int .u32),.v (.int .u32),.v (.int .u32),.v (.int .u32)]),(179,.one (.v (.int .i64)))],slots:=[(0,.pin 2000008 (.int .u32))],nb:=5 } [(.exit 4,{ tmps:=[],slots:=[(0,.pin 2000008 (.int .u32))],nb:=5 })] (fun j x=>Zsb.l2 j x.1 x.2.1 x.2.2.1 x.2.2.2.1 x.2.2.2.2.1 x.2.2.2.2.2.1 x.2.2.2.2.2.2.1 x.2.2.2.2.2.2.2.1 x.2.2.2.2.2.2.2.2.1 x.2.2.2.2.2.2.2.2.2) k
def Zsb.l2.ok (k:Nat):=(lA (Zsb.cok k):Zj Yc _ (.loop (cO (cO (cR (cR (cR (cR (cR (cB Y1))))))))) (Zsb.l2.s k))
theorem Zsb.ok (k:Nat):Ze Yc 296 (Zsb.con k):=fP (.two .auto (.two (.two .auto (.one (.sum (Zsb.l0.s k)))) (.two .auto (.two (.two .auto (.one (.sum (Zsb.l1.s k)))) (.two .auto (.one (.sum (Zsb.l2.s k)))))))) (Zsb.cok k) Tryz.func296 (sC (Zsb.l0.ok k) (sC (Zsb.l1.ok k) (sC (Zsb.l2.ok k) sN)))
def Zpc.l0 (k:Nat):Nat→Str→List Int→Option ((List Int))
 | 0,_,_=>none
 | j+1,a1,a2=>bif !(a1==[]) then Ya (Zpb a1 0 64) fun v3=>Ya (Zsb k a2 v3) fun v4=>Ya (Zpb a1 64 ((a1.length):Int)) fun v5=>Zpc.l0 k j v5 v4 else some a2
def Zpc.l1 (k:Nat):Nat→Str→Int→Int→Int→Int→Int→Int→Int→Int→Int→Option (Str)
 | 0,_,_,_,_,_,_,_,_,_,_=>none
 | j+1,a1,a2,a3,a4,a5,a6,a7,a8,a9,a10=>bif decide (a10<8) then Ya (at? [a2,a3,a4,a5,a6,a7,a8,a9] a10) fun v11=>Ya (Z0d k (Yb .u64 v11) 4) fun v12=>Ya (Zsc a1 v12) fun v13=>Zpc.l1 k j v13 a2 a3 a4 a5 a6 a7 a8 a9 (Yb .i64 (a10+1)) else some a1
def Zpc (k:Nat) (a1:Str):Option (Str):=Ya (nz? 64) fun v2=>Ya (nz? 64) fun v3=>Ya (Zsc a1 ([128]:Str)) fun v4=>Ya (strings_Repeat ([0]:Str) (Int.tmod (Yb .i64 (119-(Int.tmod ((a1.length):Int) 64))) 64)) fun v5=>Ya (Zsc v4 v5) fun v6=>Ya (Z0d k (Yb .u64 (8*(Yb .u64 ((a1.length):Int)))) 8) fun v7=>Ya (Zsc v6 v7) fun v8=>Ya (Zpc.l0 k k v8 [(Yd Zzn 0 0),(Yd Zzn 1 0),(Yd Zzn 2 0),(Yd Zzn 3 0),(Yd Zzn 4 0),(Yd Zzn 5 0),(Yd Zzn 6 0),(Yd Zzn 7 0)]) fun y9=>Ya (Zpc.l1 k k [] (Yd y9 0 0) (Yd y9 1 0) (Yd y9 2 0) (Yd y9 3 0) (Yd y9 4 0) (Yd y9 5 0) (Yd y9 6 0) (Yd y9 7 0) 0) fun y10=>some y10
def Zpc.con (k:Nat):Con:=Sig.con { ps:=[.val false .str (ros .str)],rs:=[.val false [.v .str]],ntmps:=44 } (fun x=>Zpc k x)
def Zpc.cok (k:Nat):=cX (cC (strings_Repeat.ok k) (cC (Z0d.ok k) (cC (Zsb.ok k) cN)))
def Zpc.l0.s (k:Nat):Summ:=lp 44 { tmps:=[(3,.one (.own 1)),(5,.one (.v .str))],slots:=[(1,.arr false 2000008 (.int .u32))],nb:=2 } [(.exit 0,{ tmps:=[(3,.one (.own 2))],slots:=[(2,.arr false 2000008 (.int .u32))],nb:=3 })] (fun j x=>Zpc.l0 k j x.1 x.2) k
def Zpc.l0.ok (k:Nat):=(lA (Zpc.cok k):Zj Yc _ (.loop (cO (cO (cL (cR (cR (cR (cR (cB Tryz.f270))))))))) (Zpc.l0.s k))
def Zpc.l1.s (k:Nat):Summ:=lp 44 { tmps:=[(6,.one (.v .str)),(33,.agg [.v (.int .u32),.v (.int .u32),.v (.int .u32),.v (.int .u32),.v (.int .u32),.v (.int .u32),.v (.int .u32),.v (.int .u32)]),(34,.one (.v (.int .i64)))],slots:=[],nb:=3 } [(.exit 2,{ tmps:=[(6,.one (.v .str))],slots:=[],nb:=3 })] (fun j x=>Zpc.l1 k j x.1 x.2.1 x.2.2.1 x.2.2.2.1 x.2.2.2.2.1 x.2.2.2.2.2.1 x.2.2.2.2.2.2.1 x.2.2.2.2.2.2.2.1 x.2.2.2.2.2.2.2.2.1 x.2.2.2.2.2.2.2.2.2) k
def Zpc.l1.ok (k:Nat):=(lA (Zpc.cok k):Zj Yc _ (.loop (cO (cO (cR (cL (cR (cR (cR (cR (cR (cR (cB Tryz.f270)))))))))))) (Zpc.l1.s k))
theorem Zpc.ok (k:Nat):Ze Yc 270 (Zpc.con k):=fP (.two .auto (.two .auto (.two .auto (.two .auto (.two (.one (.sum (Zpc.l0.s k))) (.two .auto (.two (.two .auto (.one (.sum (Zpc.l1.s k)))) .auto))))))) (Zpc.cok k) Tryz.func270 (sC (Zpc.l0.ok k) (sC (Zpc.l1.ok k) sN))
def strings_Join (l:List Str) (s:Str):Option Str:=if l.length≤140737488355328∧(Lib.join l s).length≤140737488355328 then some (Lib.join l s) else none
def strings_Join.con (k:Nat):Con:={ ms:=[.val [.ro],.val [.ro]],f:=fun xs=>match xs with
 | [.val false [.leaf (.bor .str l)],.val false [.leaf (.str s)]]=>.opt Str (strings_Join l s) fun r=>⟨[.val false [.leaf (.str r)]],[]⟩
 | _=>.fail }
theorem strings_Join.ok (k:Nat):Ze Yc 271 (strings_Join.con k):=by
 refine ⟨(Zi4 Tryz.func271 (by kernel_rfl) (show Tryz.f271.body=some (cB Tryz.f271) by kernel_rfl)),?_⟩
 intro xs rr hrr w vs F L M hF hnd hgl hargs
 unfold strings_Join.con at hrr
 dsimp only at hrr
 split at hrr
 ·rename_i l s
  replace hrr:(strings_Join l s).map (fun r=>(⟨[.val false [.leaf (.str r)]],[]⟩:RR))=some rr:=hrr;unfold strings_Join at hrr;split at hrr
  ·rename_i hc
   obtain ⟨hc1,hc2⟩:=hc;cases hrr
   match vs,hargs with
   | [v1,v2],⟨_,_,_,_,hL,hM,⟨rfl,hv1,hn1⟩,_,_,_,_,hL2,hM2,⟨rfl,hv2,hn2⟩,hn3,hn4⟩=>
   have hv2:v2 = .string (ba s):=hv2;subst hv2;subst hn1;subst hn2;subst hn3;subst hn4;subst hL2;subst hM2;subst hL;subst hM;obtain ⟨A,c,hv,hlc,hrow⟩:=hv1;cases hv
   have fin:∀w',Below w.heap.size w w'→∃v,Ending.returned (.string (ba (Lib.join l s))) = .returned v∧Zwv ⟨[.val false [.leaf (.str (Lib.join l s))]],[]⟩ F [] [] w v w':=fun w' bel=>
    ⟨_,rfl,⟨bel.os,bel.tape,bel.output,bel.size,fun b hb _=>bel.block b hb⟩,[],[],(fun c hc=>nomatch hc),List.nodup_nil,rfl,rfl,rfl⟩
   rcases hrow with rfl | ⟨g,o,rfl,hB,hcells⟩
   ·refine (Tryz.strings_Join_none A c (ba s) w).mono ?_
    rintro e w' ⟨rfl,rfl⟩;exact fin _ (Below.refl _ _)
   ·have hx:((l.map ba).map (·.data.toList))=l:=by rw [List.map_map];exact List.map_id' l
    have hcall:=Tryz.strings_Join g o c (l.map ba) (ba s) w (fun j x hj=>by
     rw [List.getElem?_map] at hj;obtain ⟨y,hy,rfl⟩:=Option.map_eq_some_iff.1 hj;obtain ⟨cs,h1,h2⟩:=hcells j y hy;have h2:cs=[.string (ba y)]:=h2;subst h2;have:=h1 0 _ rfl;simpa [Ty.sz] using this) hB.1 (by rw [Yy];exact hc1) (by rw [Yy];exact hlc) (by rw [hx];exact hc2)
    rw [hx,Yy] at hcall;refine hcall.mono ?_;rintro e w' ⟨rfl,bel⟩;exact fin w' bel
  ·cases hrr
 ·cases hrr
def Z7p (k:Nat) (a1:List Str):Option (Str):=Ya (strings_Join a1 []) fun v2=>Ya (Zpc k v2) fun v3=>some v3
def Z7p.con (k:Nat):Con:=Sig.con { ps:=[.val false (.sl .str) (ros (.sl .str))],rs:=[.val false [.v .str]],ntmps:=6 } (fun x=>Z7p k x)
theorem Z7p.ok (k:Nat):Ze Yc 220 (Z7p.con k):=fA (cX (cC (Zpc.ok k) (cC (strings_Join.ok k) cN))) Tryz.func220
def Zzp (k:Nat) (a1:G28) (a2:G46) (a3:List G52):Option (List Zmc×Str×List Int×Int):=Ya (Zpj a2) fun v4=>Ya (Zke k a1 v4) fun v5=>Ya (Zzd k a1) fun v6=>bif a2.1 != 2 then some ([],[],[],10) else Ya (Zal a3) fun v7=>bif v7 != a2.2.2.1 then some (v5,[],[],4) else Ya (Zgd k a3 a1.1) fun v8=>bif v8 != 0 then some (v5,[],[],5) else Ya (Zze k v6 a3) fun v9=>Ya (Z7p k v9) fun v10=>bif !(v10==a2.2.2.2.2.2.1) then some (v5,[],[],5) else Ya (Znb k a3) fun v11=>Ya (Zme k v11) fun v12=>bif decide (a2.2.2.2.1<v12) then some (v5,[],[],11) else Ya (Zke k a1 (3,a2.2)) fun v13=>Ya (Zt 32 ([(true,(0,[]))]) v13) fun v14=>some (v14,[],[],0)
def Zzp.con (k:Nat):Con:=Sig.con { ps:=[.val true T28 (ros T28),.val true T46 (ros T46),.val false (.sl T52) (ros (.sl T52))],rs:=[.val true [.own 151 Z6b,.v .str,.own 2 (.int .i64),.v (.int .i64)]],ntmps:=62 } (fun x=>Zzp k x.1 x.2.1 x.2.2)
theorem Zzp.ok (k:Nat):Ze Yc 130 (Zzp.con k):=fA (cX (cC (Zzd.ok k) (cC (Zgd.ok k) (cC (Znb.ok k) (cC (Zme.ok k) (cC (Zze.ok k) (cC (Zke.ok k) (cC (Zpj.ok k) (cC (Zal.ok k) (cC (Z7p.ok k) cN)))))))))) Tryz.func130
def Zfq (k:Nat) (a1:Int) (a2:Int) (a3:Str):Option (Str):=Ya (Z1d k [a1,a2]) fun v4=>Ya (Znj k a3) fun v5=>Ya (Zsc v4 v5) fun v6=>Ya (Zoj k v6) fun v7=>some v7
def Zfq.con (k:Nat):Con:=Sig.con { ps:=[.val false (.int .i64) (ros (.int .i64)),.val false (.int .i64) (ros (.int .i64)),.val false .str (ros .str)],rs:=[.val false [.v .str]],ntmps:=15 } (fun x=>Zfq k x.1 x.2.1 x.2.2)
theorem Zfq.ok (k:Nat):Ze Yc 222 (Zfq.con k):=fA (cX (cC (Z1d.ok k) (cC (Znj.ok k) (cC (Zoj.ok k) cN)))) Tryz.func222
def Zxc.j0 (k:Nat) (a1:List G52) (a2:Int) (a3:Int) (a4:List Str) (a5:List Zq) (a6:Int) (a7:Int) (a8:Int) (a9:Int) (a10:Int) (a11:Str) (a12:List Int) (a13:List Int) (a14:Int) (a15:Int) (a16:Int) (a17:Int) (a18:List Zed):Option ((Int×Str×Int×List Str×List Zq×Int×Int×Int×Int×Int×Str×List Int×List Int×Int×Int×Int×Int)):=let e19:=(a3,(a4,a5));bif a14==1 then Ya (at? a13 a17) fun v20=>Ya (Z1h e19 v20) fun v21=>Ya (Zig k (a4,a5) a2) fun v22=>some (v21,v22,a3,a4,a5,a6,a7,a8,a9,a10,a11,a12,a13,a14,a15,a16,a17) else Ya (Zqj k a1) fun v23=>Ya (at? v23 a15) fun v24=>Ya (Zjg k e19 (a6,(a7,(a8,(a9,(a10,(a11,(a12,a13))))))) a18 v24) fun v25=>some (a2,v25,a3,a4,a5,a6,a7,a8,a9,a10,a11,a12,a13,a14,a15,a16,a17)
def Zxc.j1 (k:Nat) (a1:Int) (a2:Str) (a3:Str) (a4:Int) (a5:Int) (a6:Int) (a7:Int) (a8:Int) (a9:Str) (a10:List Int) (a11:List Int):Option ((Str×Int×Int×Int×Int×Int×Str×List Int×List Int)):=bif ((a2.length):Int)==8 then Ya (Zfq k a8 a1 a2) fun v12=>some (v12,a4,a5,a6,a7,a8,a9,a10,a11) else some (a3,a4,a5,a6,a7,a8,a9,a10,a11)
def Zxc (k:Nat) (a1:G28) (a2:G46) (a3:List G52):Option (List Zmc×Str×List Int×Int):=bif a2.1 != 5 then some ([],[],[],10) else Ya (Znb k a3) fun v4=>Ya (Z5l v4) fun v5=>let e6:=Yb .i64 (v5-a2.2.2.2.2.1);bif e6==0 then Ya (Zpj a2) fun v7=>Ya (Zke k a1 v7) fun v8=>some (v8,[],[0],0) else let e9:=at? v4 a2.2.2.2.2.1;Ya (e9) fun v10=>Ya (e9) fun v11=>Ya (Zxc.j0 k a3 (Yb .i64 (3+v11.2.2.1)) a1.1 a1.2.1 a1.2.2 a2.1 a2.2.1 a2.2.2.1 a2.2.2.2.1 a2.2.2.2.2.1 a2.2.2.2.2.2.1 a2.2.2.2.2.2.2.1 a2.2.2.2.2.2.2.2 v11.1 v11.2.1 v11.2.2.1 v11.2.2.2 v4) fun y12=>Ya (Zxc.j1 k y12.1 y12.2.1 [] y12.2.2.2.2.2.1 y12.2.2.2.2.2.2.1 y12.2.2.2.2.2.2.2.1 y12.2.2.2.2.2.2.2.2.1 y12.2.2.2.2.2.2.2.2.2.1 y12.2.2.2.2.2.2.2.2.2.2.1 y12.2.2.2.2.2.2.2.2.2.2.2.1 y12.2.2.2.2.2.2.2.2.2.2.2.2.1) fun y13=>Ya (Zke k (y12.2.2.1,(y12.2.2.2.1,y12.2.2.2.2.1)) (y13.2.1,(y13.2.2.1,(y13.2.2.2.1,(y13.2.2.2.2.1,((Yb .i64 (y13.2.2.2.2.2.1+1)),y13.2.2.2.2.2.2)))))) fun v14=>let e15:=(true,(0,[]));Ya (Zt 32 [(false,(2,y13.1)),e15,(false,(y12.1,y12.2.1)),e15] v14) fun v16=>some (v16,[],[(Yb .i64 (e6-1))],0)
def Zxc.con (k:Nat):Con:=Sig.conR { ps:=[.val true T28 (Z9g T28),.val true T46 (Z9g T46),.val false (.sl T52) (ros (.sl T52))],rs:=[.val true [.own 151 Z6b,.v .str,.own 2 (.int .i64),.v (.int .i64)]],ntmps:=95 } (fun x=>Zxc k x.1 x.2.1 x.2.2)
def Zxc.cok (k:Nat):=cX (cC (Znb.ok k) (cC (Z5l.ok k) (cC (Zqj.ok k) (cC (Zjg.ok k) (cC (Zig.ok k) (cC (Zke.ok k) (cC (Zpj.ok k) (cC (Z1h.ok k) (cC (Zfq.ok k) cN)))))))))
def Zxc.j0.s (k:Nat):Summ:=lq 95 { tmps:=[(2,.one (.bor T52)),(3,.one (.ptr 0 0)),(4,.one (.ptr 1 0)),(7,.one (.own 5)),(9,.one (.ptr 4 0)),(10,.one (.v (.int .i64)))],slots:=[(0,.box 28 [.v (.int .i64),.v (.sl .str),.v (.sl Zo)]),(1,.box 46 [.v (.int .i64),.v (.int .i64),.v (.int .i64),.v (.int .i64),.v (.int .i64),.v .str,.v (.sl (.int .i64)),.v (.sl (.int .i64))]),(4,.box 139 [.v (.int .i64),.v (.int .i64),.v (.int .i64),.v (.int .i64)]),(5,.arr false 139 Z5b)],nb:=6 } [(.nrm,{ tmps:=[(10,.one (.v (.int .i64))),(11,.one (.v .str))],slots:=[(0,.box 28 [.v (.int .i64),.v (.sl .str),.v (.sl Zo)]),(1,.box 46 [.v (.int .i64),.v (.int .i64),.v (.int .i64),.v (.int .i64),.v (.int .i64),.v .str,.v (.sl (.int .i64)),.v (.sl (.int .i64))]),(4,.box 139 [.v (.int .i64),.v (.int .i64),.v (.int .i64),.v (.int .i64)])],nb:=6 })] (fun x=>Zxc.j0 k x.1 x.2.1 x.2.2.1 x.2.2.2.1 x.2.2.2.2.1 x.2.2.2.2.2.1 x.2.2.2.2.2.2.1 x.2.2.2.2.2.2.2.1 x.2.2.2.2.2.2.2.2.1 x.2.2.2.2.2.2.2.2.2.1 x.2.2.2.2.2.2.2.2.2.2.1 x.2.2.2.2.2.2.2.2.2.2.2.1 x.2.2.2.2.2.2.2.2.2.2.2.2.1 x.2.2.2.2.2.2.2.2.2.2.2.2.2.1 x.2.2.2.2.2.2.2.2.2.2.2.2.2.2.1 x.2.2.2.2.2.2.2.2.2.2.2.2.2.2.2.1 x.2.2.2.2.2.2.2.2.2.2.2.2.2.2.2.2.1 x.2.2.2.2.2.2.2.2.2.2.2.2.2.2.2.2.2)
def Zxc.j0.ok (k:Nat):=(jA (Zxc.cok k):Zj Yc _ (cL (cR (cR (cR (cR (cR (cR (cR (cB Tryz.f133))))))))) (Zxc.j0.s k))
def Zxc.j1.s (k:Nat):Summ:=lq 95 { tmps:=[(4,.one (.ptr 1 0)),(10,.one (.v (.int .i64))),(11,.one (.v .str)),(12,.one (.v .str))],slots:=[(1,.box 46 [.v (.int .i64),.v (.int .i64),.v (.int .i64),.v (.int .i64),.v (.int .i64),.v .str,.v (.sl (.int .i64)),.v (.sl (.int .i64))])],nb:=6 } [(.nrm,{ tmps:=[(12,.one (.v .str))],slots:=[(1,.box 46 [.v (.int .i64),.v (.int .i64),.v (.int .i64),.v (.int .i64),.v (.int .i64),.v .str,.v (.sl (.int .i64)),.v (.sl (.int .i64))])],nb:=6 })] (fun x=>Zxc.j1 k x.1 x.2.1 x.2.2.1 x.2.2.2.1 x.2.2.2.2.1 x.2.2.2.2.2.1 x.2.2.2.2.2.2.1 x.2.2.2.2.2.2.2.1 x.2.2.2.2.2.2.2.2.1 x.2.2.2.2.2.2.2.2.2.1 x.2.2.2.2.2.2.2.2.2.2)
def Zxc.j1.ok (k:Nat):=(jA (Zxc.cok k):Zj Yc _ (cL (cR (cR (cR (cR (cR (cR (cR (cR (cR (cB Tryz.f133))))))))))) (Zxc.j1.s k))
theorem Zxc.ok (k:Nat):Ze Yc 133 (Zxc.con k):=Zfab (fP (.two .auto (.two .auto (.two .auto (.two .auto (.two .auto (.two .auto (.two .auto (.two (.sum (Zxc.j0.s k)) (.two .auto (.two (.sum (Zxc.j1.s k)) .auto)))))))))) (Zxc.cok k) Tryz.func133 (sC (Zxc.j0.ok k) (sC (Zxc.j1.ok k) sN)))
def Zho (k:Nat) (a1:G28) (a2:G46):Option (List Zed):=Ya (Zad k a1 a2) fun v3=>Ya (Zgd k v3 a1.1) fun v4=>bif v4 != 0 then some ([]) else Ya (Znb k v3) fun v5=>some v5
def Zho.con (k:Nat):Con:=Sig.con { ps:=[.val true T28 (ros T28),.val true T46 (ros T46)],rs:=[.val false [.own 139 Z5b]],ntmps:=16 } (fun x=>Zho k x.1 x.2)
theorem Zho.ok (k:Nat):Ze Yc 134 (Zho.con k):=fA (cXr true false (cC (Zad.ok k) (cC (Zgd.ok k) (cC (Znb.ok k) cN)))) Tryz.func134
def Znc.j0 (k:Nat) (a1:Int) (a2:List Str) (a3:List Zq) (a4:Int) (a5:Int) (a6:Int) (a7:Int) (a8:Int) (a9:Int) (a10:Str) (a11:List Int) (a12:List Int):Option ((Int×Int×Int×Int×Int×Int×Str×List Int×List Int)):=bif a5==5 then Ya (Zho k (a1,(a2,a3)) (a5,(a6,(a7,(a8,(a9,(a10,(a11,a12)))))))) fun v13=>Ya (Z5l v13) fun v14=>some (Yb .i64 (v14-a9),a5,a6,a7,a8,a9,a10,a11,a12) else some (a4,a5,a6,a7,a8,a9,a10,a11,a12)
def Znc (k:Nat) (a1:G28) (a2:G54):Option (List Zmc×Str×List Int×Int):=Ya (Zsg k a1) fun v3=>Ya (Z2c k a1.2) fun v4=>bif v4.1==1000000 then some ([],[],[],9) else let e5:=(v3.2.2.1,(v3.2.2.2.1,(v3.2.2.2.2.1,(v3.2.2.2.2.2.1,(v3.2.2.2.2.2.2.1,v3.2.2.2.2.2.2.2.1)))));let e6:=(v3.1,(v3.2.1,e5));Ya (Zad k a1 e6) fun v7=>bif a2.1==1 then Ya (Zve k a1 e6 a2) fun v8=>some (v8.1,v8.2.1,v8.2.2.1,v8.2.2.2) else bif a2.1==2 then Ya (Z0p k a1 e6 v7 a2.2.2.2.2) fun v9=>some (v9.1,v9.2.1,v9.2.2.1,v9.2.2.2) else bif a2.1==3 then Ya (Zzp k a1 e6 v7) fun v10=>some (v10.1,v10.2.1,v10.2.2.1,v10.2.2.2) else bif a2.1==4 then bif (v3.1==1)||(v3.1==5) then some ([],[],[],10) else Ya (Zpj e6) fun v11=>Ya (Zke k a1 v11) fun v12=>some (v12,[],[],0) else bif a2.1==5 then bif v3.1 != 4 then some ([],[],[],10) else Ya (Zke k a1 (5,(0,e5))) fun v13=>Ya (Zt 32 ([(false,(2,[])),(true,(0,[]))]) v13) fun v14=>some (v14,[],[],0) else bif a2.1==6 then Ya (Zxc k a1 e6 v7) fun v15=>some (v15.1,v15.2.1,v15.2.2.1,v15.2.2.2) else bif a2.1==7 then bif decide (a1.1≤a2.2.1) then some ([],[],[],8) else Ya (Zwe k a1) fun v16=>let e17:=at? v16 a2.2.1;Ya (e17) fun v18=>Ya (e17) fun v19=>some ([],v19,[],0) else bif a2.1==8 then Ya (Znc.j0 k a1.1 a1.2.1 a1.2.2 0 v3.1 v3.2.1 v3.2.2.1 v3.2.2.2.1 v3.2.2.2.2.1 v3.2.2.2.2.2.1 v3.2.2.2.2.2.2.1 v3.2.2.2.2.2.2.2.1) fun y20=>Ya (Zal v7) fun v21=>Ya (Zle k v7) fun v22=>Ya (Zjk y20.2.2.2.2.2.2.2.1) fun v23=>Ya (Zjk y20.2.2.2.2.2.2.2.2) fun v24=>some ([],[],[y20.2.1,y20.2.2.1,v21,v22,y20.1,(Yb .i64 ((Yb .i64 (24-v23))-v24))],0) else bif a2.1==9 then Ya (Z2b k v3.2.2.2.2.2.2.1 v3.2.2.2.2.2.2.2.1 a2.2.1) fun v25=>bif !v25.2 then some ([],[],[],11) else Ya (Zoc k v3.2.2.2.2.2.2.1) fun v26=>Ya (Zoc k v25.1) fun v27=>Ya (Zld k (intBits .or .i64 v26 v27)) fun v28=>Ya (Zke k a1 (v3.1,(v3.2.1,(v3.2.2.1,(v3.2.2.2.1,(v3.2.2.2.2.1,(v3.2.2.2.2.2.1,(v28,v3.2.2.2.2.2.2.2.1)))))))) fun v29=>some (v29,[],[],0) else bif a2.1==10 then Ya (Zke k a1 (v3.1,(v3.2.1,(v3.2.2.1,(v3.2.2.2.1,(v3.2.2.2.2.1,(v3.2.2.2.2.2.1,([],v3.2.2.2.2.2.2.2.1)))))))) fun v30=>some (v30,[],[],0) else Ya (Z1c k a1 e6) fun v31=>some (v31,[],[],0)
def Znc.con (k:Nat):Con:=Sig.con { ps:=[.val true T28 (ros T28),.val true T54 (ros T54)],rs:=[.val true [.own 151 Z6b,.v .str,.own 2 (.int .i64),.v (.int .i64)]],ntmps:=175 } (fun x=>Znc k x.1 x.2)
def Znc.cok (k:Nat):=cXr true false (cC (Zwe.ok k) (cC (Zsg.ok k) (cC (Z1c.ok k) (cC (Zad.ok k) (cC (Z5l.ok k) (cC (Z2c.ok k) (cC (Zve.ok k) (cC (Z0p.ok k) (cC (Zzp.ok k) (cC (Zke.ok k) (cC (Zpj.ok k) (cC (Zxc.ok k) (cC (Zho.ok k) (cC (Zal.ok k) (cC (Zle.ok k) (cC (Zjk.ok k) (cC (Z2b.ok k) (cC (Zld.ok k) (cC (Zoc.ok k) cN)))))))))))))))))))
def Znc.j0.s (k:Nat):Summ:=lq 175 { tmps:=[(2,.eptr [.v (.int .i64),.bor .str,.bor Zo]),(5,.one (.ptr 4 0)),(10,.one (.v (.int .i64)))],slots:=[(4,.box 46 [.v (.int .i64),.v (.int .i64),.v (.int .i64),.v (.int .i64),.v (.int .i64),.v .str,.own 7,.own 8]),(7,.arr false 2 (.int .i64)),(8,.arr false 2 (.int .i64))],nb:=9 } [(.nrm,{ tmps:=[(10,.one (.v (.int .i64)))],slots:=[(4,.box 46 [.v (.int .i64),.v (.int .i64),.v (.int .i64),.v (.int .i64),.v (.int .i64),.v .str,.own 9,.own 10]),(9,.arr false 2 (.int .i64)),(10,.arr false 2 (.int .i64))],nb:=11 })] (fun x=>Znc.j0 k x.1 x.2.1 x.2.2.1 x.2.2.2.1 x.2.2.2.2.1 x.2.2.2.2.2.1 x.2.2.2.2.2.2.1 x.2.2.2.2.2.2.2.1 x.2.2.2.2.2.2.2.2.1 x.2.2.2.2.2.2.2.2.2.1 x.2.2.2.2.2.2.2.2.2.2.1 x.2.2.2.2.2.2.2.2.2.2.2)
def Znc.j0.ok (k:Nat):=(jA (Znc.cok k):Zj Yc _ (cL (cR (cL (cR (cR (cR (cR (cR (cR (cR (cR (cR (cR (cR (cR (cR (cR (cR (cO (cR (cL (cR (cR (cR (cR (cB Tryz.f62)))))))))))))))))))))))))) (Znc.j0.s k))
theorem Znc.ok (k:Nat):Ze Yc 62 (Znc.con k):=fP (.two .auto (.two .auto (.two .auto (.two .auto (.two (.two .auto (.one (.two .auto (.two .auto (.two .auto (.two .auto (.two .auto (.two .auto (.two .auto (.two .auto (.two .auto (.two .auto (.two .auto (.two .auto (.two .auto (.two .auto (.two .auto (.two (.two .auto (.two (.sum (Znc.j0.s k)) .auto)) .auto)))))))))))))))))) .auto))))) (Znc.cok k) Tryz.func62 (sC (Znc.j0.ok k) sN)
def Z6k (k:Nat) (a1:G28) (a2:G54) (a3:Int) (a4:List Int):Option (Int×List Str×List Zq×Int):=bif decide (400<((a4.length):Int)) then some (0,[],[],2) else Ya (Zik k a1) fun v5=>bif !v5 then some (0,[],[],1) else Ya (Z9k a2) fun v6=>bif (!v6)||(decide (a3<0)) then some (0,[],[],1) else Ya (Znc k a1 a2) fun v7=>Ya (Zcn k a1 v7.1 a3 a4) fun v8=>some (v8.1,v8.2.1,v8.2.2,0)
def Z6k.con (k:Nat):Con:=Sig.con { ps:=[.val true T28 (ros T28),.val true T54 (ros T54),.val false (.int .i64) (ros (.int .i64)),.val false (.sl (.int .i64)) (ros (.sl (.int .i64)))],rs:=[.val true [.v (.int .i64),.own 9 .str,.own 195 Zo,.v (.int .i64)]],ntmps:=37 } (fun x=>Z6k k x.1 x.2.1 x.2.2.1 x.2.2.2)
theorem Z6k.ok (k:Nat):Ze Yc 15 (Z6k.con k):=fA (cXr true false (cC (Zik.ok k) (cC (Z9k.ok k) (cC (Zcn.ok k) (cC (Znc.ok k) cN))))) Tryz.func15
def Zgo (k:Nat) (a1:G28):Option (Int×List Str×List Zq×Int):=Ya (Zsg k a1) fun v2=>bif !v2.2.2.2.2.2.2.2.2 then some (0,[],[],1) else Ya (Z1c k a1 (v2.1,(v2.2.1,(v2.2.2.1,(v2.2.2.2.1,(v2.2.2.2.2.1,(v2.2.2.2.2.2.1,(v2.2.2.2.2.2.2.1,v2.2.2.2.2.2.2.2.1)))))))) fun v3=>Ya (Zud k a1.2 v3) fun v4=>some (a1.1,v4.1,v4.2,0)
def Zgo.con (k:Nat):Con:=Sig.con { ps:=[.val true T28 (ros T28)],rs:=[.val true [.v (.int .i64),.own 9 .str,.own 195 Zo,.v (.int .i64)]],ntmps:=23 } (fun x=>Zgo k x)
theorem Zgo.ok (k:Nat):Ze Yc 17 (Zgo.con k):=fA (cXr true false (cC (Zsg.ok k) (cC (Zud.ok k) (cC (Z1c.ok k) cN)))) Tryz.func17
def Zan (k:Nat) (a1:G28) (a2:G54):Option (Int×List Str×List Zq×Str×List Int×Int):=Ya (Zik k a1) fun v3=>bif !v3 then some (0,[],[],[],[],1) else Ya (Z9k a2) fun v4=>bif !v4 then some (0,[],[],[],[],1) else Ya (Znc k a1 a2) fun v5=>Ya (Zud k a1.2 v5.1) fun v6=>some (a1.1,v6.1,v6.2,v5.2.1,v5.2.2.1,v5.2.2.2)
def Zan.con (k:Nat):Con:=Sig.con { ps:=[.val true T28 (ros T28),.val true T54 (ros T54)],rs:=[.val true [.v (.int .i64),.own 9 .str,.own 195 Zo,.v .str,.own 2 (.int .i64),.v (.int .i64)]],ntmps:=33 } (fun x=>Zan k x.1 x.2)
theorem Zan.ok (k:Nat):Ze Yc 24 (Zan.con k):=fA (cXr true false (cC (Zik.ok k) (cC (Z9k.ok k) (cC (Znc.ok k) (cC (Zud.ok k) cN))))) Tryz.func24
def Z5k (k:Nat) (a1:G28) (a2:Int) (a3:List Int):Option (Int×List Str×List Zq×Int):=Ya (Zsg k a1) fun v4=>bif decide (400<((a3.length):Int)) then some (0,[],[],2) else bif (!v4.2.2.2.2.2.2.2.2)||(decide (a2<0)) then some (0,[],[],1) else Ya (Z1c k a1 (v4.1,(v4.2.1,(v4.2.2.1,(v4.2.2.2.1,(v4.2.2.2.2.1,(v4.2.2.2.2.2.1,(v4.2.2.2.2.2.2.1,v4.2.2.2.2.2.2.2.1)))))))) fun v5=>Ya (Zcn k a1 v5 a2 a3) fun v6=>some (v6.1,v6.2.1,v6.2.2,0)
def Z5k.con (k:Nat):Con:=Sig.con { ps:=[.val true T28 (ros T28),.val false (.int .i64) (ros (.int .i64)),.val false (.sl (.int .i64)) (ros (.sl (.int .i64)))],rs:=[.val true [.v (.int .i64),.own 9 .str,.own 195 Zo,.v (.int .i64)]],ntmps:=35 } (fun x=>Z5k k x.1 x.2.1 x.2.2)
theorem Z5k.ok (k:Nat):Ze Yc 171 (Z5k.con k):=fA (cXr true false (cC (Zsg.ok k) (cC (Zcn.ok k) (cC (Z1c.ok k) cN)))) Tryz.func171
def Zxe.l0 (k:Nat):Nat→Int→Int→Int→Str→Int→Int→Int→Str→Int→List Int→List Int→List Int→Int→Int→Int→Int→List Str→List Zq→Option ((Int×Int×List Str×List Zq))
 | 0,_,_,_,_,_,_,_,_,_,_,_,_,_,_,_,_,_,_=>none
 | j+1,a1,a2,a3,a4,a5,a6,a7,a8,a9,a10,a11,a12,a13,a14,a15,a16,a17,a18=>bif decide (a14<a13) then Ya (at? a12 a14) fun v19=>Ya (Z5k k (a15,(a17,a18)) v19 a10) fun v20=>Zxe.l0 k j a1 a2 a3 a4 a5 a6 a7 a8 a9 a10 a11 a12 a13 (Yb .i64 (a14+1)) v20.1 v20.2.2.2 v20.2.1 v20.2.2.1 else some (a15,a16,a17,a18)
def Zxe (k:Nat) (a1:G28) (a2:G86):Option (Int×List Str×List Zq×Str×List Int×Int):=bif decide (a2.2.1<0) then Ya (Zan k a1 a2.1) fun v3=>some (v3.1,v3.2.1,v3.2.2.1,v3.2.2.2.1,v3.2.2.2.2.1,v3.2.2.2.2.2) else Ya (Z6k k a1 a2.1 a2.2.1 a2.2.2.1) fun v4=>Ya (Zxe.l0 k k a2.1.1 a2.1.2.1 a2.1.2.2.1 a2.1.2.2.2.1 a2.1.2.2.2.2.1 a2.1.2.2.2.2.2.1 a2.1.2.2.2.2.2.2.1 a2.1.2.2.2.2.2.2.2 a2.2.1 a2.2.2.1 a2.2.2.2 a2.2.2.2 ((a2.2.2.2.length):Int) 0 v4.1 v4.2.2.2 v4.2.1 v4.2.2.1) fun y5=>Ya (Zgo k (y5.1,y5.2.2)) fun v6=>some (v6.1,v6.2.1,v6.2.2.1,[],[],0)
def Zxe.con (k:Nat):Con:=Sig.con { ps:=[.val true T28 (ros T28),.val true T86 (ros T86)],rs:=[.val true [.v (.int .i64),.own 9 .str,.own 195 Zo,.v .str,.own 2 (.int .i64),.v (.int .i64)]],ntmps:=42 } (fun x=>Zxe k x.1 x.2)
def Zxe.cok (k:Nat):=cXr true false (cC (Z6k.ok k) (cC (Zgo.ok k) (cC (Zan.ok k) (cC (Z5k.ok k) cN))))
def Zxe.l0.s (k:Nat):Summ:=lp 42 { tmps:=[(3,.eptr [.v (.int .i64),.v (.int .i64),.v (.int .i64),.v .str,.v (.int .i64),.v (.int .i64),.v (.int .i64),.v .str,.v (.int .i64),.bor (.int .i64),.bor (.int .i64)]),(5,.one (.ptr 3 0)),(24,.one (.bor (.int .i64))),(25,.one (.v (.int .i64))),(26,.one (.v (.int .i64)))],slots:=[(3,.box 38 [.v (.int .i64),.own 4,.own 5,.v (.int .i64)]),(4,.arr false 9 .str),(5,.arr false 195 Zo)],nb:=6 } [(.exit 0,{ tmps:=[],slots:=[(3,.box 38 [.v (.int .i64),.own 6,.own 7,.v (.int .i64)]),(6,.arr false 9 .str),(7,.arr false 195 Zo)],nb:=8 })] (fun j x=>Zxe.l0 k j x.1 x.2.1 x.2.2.1 x.2.2.2.1 x.2.2.2.2.1 x.2.2.2.2.2.1 x.2.2.2.2.2.2.1 x.2.2.2.2.2.2.2.1 x.2.2.2.2.2.2.2.2.1 x.2.2.2.2.2.2.2.2.2.1 x.2.2.2.2.2.2.2.2.2.2.1 x.2.2.2.2.2.2.2.2.2.2.2.1 x.2.2.2.2.2.2.2.2.2.2.2.2.1 x.2.2.2.2.2.2.2.2.2.2.2.2.2.1 x.2.2.2.2.2.2.2.2.2.2.2.2.2.2.1 x.2.2.2.2.2.2.2.2.2.2.2.2.2.2.2.1 x.2.2.2.2.2.2.2.2.2.2.2.2.2.2.2.2.1 x.2.2.2.2.2.2.2.2.2.2.2.2.2.2.2.2.2) k
def Zxe.l0.ok (k:Nat):=(lA (Zxe.cok k):Zj Yc _ (.loop (cO (cO (cR (cL (cR (cR (cR (cB Tryz.f84))))))))) (Zxe.l0.s k))
theorem Zxe.ok (k:Nat):Ze Yc 84 (Zxe.con k):=fP (.two .auto (.two .auto (.two .auto (.two (.two .auto (.one (.sum (Zxe.l0.s k)))) .auto)))) (Zxe.cok k) Tryz.func84 (sC (Zxe.l0.ok k) sN)
def Z7k (k:Nat) (a1:G28) (a2:G86):Option (Int×List Str×List Zq×Str×List Int×Int):=Ya (Zik k a1) fun v3=>bif !v3 then some (0,[],[],[],[],1) else Ya (Zio k a2) fun v4=>bif !v4 then some (0,[],[],[],[],1) else Ya (Zxe k a1 a2) fun v5=>some (v5.1,v5.2.1,v5.2.2.1,v5.2.2.2.1,v5.2.2.2.2.1,v5.2.2.2.2.2)
def Z7k.con (k:Nat):Con:=Sig.con { ps:=[.val true T28 (ros T28),.val true T86 (ros T86)],rs:=[.val true [.v (.int .i64),.own 9 .str,.own 195 Zo,.v .str,.own 2 (.int .i64),.v (.int .i64)]],ntmps:=17 } (fun x=>Z7k k x.1 x.2)
theorem Z7k.ok (k:Nat):Ze Yc 40 (Z7k.con k):=fA (cXr true false (cC (Zik.ok k) (cC (Zio.ok k) (cC (Zxe.ok k) cN)))) Tryz.func40
def Zsq (a1:G52) (a2:G52):Option (Bool):=bif a1.1 != a2.1 then some false else bif a1.2.1 != a2.2.1 then some false else bif a1.2.2.1 != a2.2.2.1 then some false else bif !(a1.2.2.2==a2.2.2.2) then some false else some true
def Zsq.con (k:Nat):Con:=Sig.con { ps:=[.val true T52 (ros T52),.val true T52 (ros T52)],rs:=[.val false [.v .bool]],ntmps:=25 } (fun x=>Zsq x.1 x.2)
theorem Zsq.ok (k:Nat):Ze Yc 172 (Zsq.con k):=fA (cX cN) Tryz.func172
def Z7s (a1:G54) (a2:G54):Option (Bool):=bif a1.1 != a2.1 then some false else bif a1.2.1 != a2.2.1 then some false else bif a1.2.2.1 != a2.2.2.1 then some false else bif !(a1.2.2.2.1==a2.2.2.2.1) then some false else Ya (Zsq a1.2.2.2.2 a2.2.2.2.2) fun v3=>bif !v3 then some false else some true
def Z7s.con (k:Nat):Con:=Sig.con { ps:=[.val true T54 (ros T54),.val true T54 (ros T54)],rs:=[.val false [.v .bool]],ntmps:=31 } (fun x=>Z7s x.1 x.2)
theorem Z7s.ok (k:Nat):Ze Yc 85 (Z7s.con k):=fA (cX (cC (Zsq.ok k) cN)) Tryz.func85
def Zpq (k:Nat) (a1:G86) (a2:G86):Option (Bool):=Ya (Z7s a1.1 a2.1) fun v3=>bif !v3 then some false else bif a1.2.1 != a2.2.1 then some false else Ya (Zoe k a1.2.2.1 a2.2.2.1) fun v4=>bif !v4 then some false else Ya (Zoe k a1.2.2.2 a2.2.2.2) fun v5=>bif !v5 then some false else some true
def Zpq.con (k:Nat):Con:=Sig.con { ps:=[.val true T86 (ros T86),.val true T86 (ros T86)],rs:=[.val false [.v .bool]],ntmps:=28 } (fun x=>Zpq k x.1 x.2)
theorem Zpq.ok (k:Nat):Ze Yc 41 (Zpq.con k):=fA (cXr true false (cC (Zoe.ok k) (cC (Z7s.ok k) cN))) Tryz.func41
def Zuq (k:Nat) (a1:G86) (a2:Int):Option (Int×List Int×List Int):=Ya (Zmd k a1.2.2.1 a2) fun v3=>Ya (Zmd k a1.2.2.2 v3.1) fun v4=>some (v4.1,v3.2,v4.2)
def Zuq.con (k:Nat):Con:=Sig.con { ps:=[.val true T86 [.v,.v,.v,.v,.v,.v,.v,.v,.v,.own 2,.own 2],.val false (.int .i64) (ros (.int .i64))],rs:=[.val false [.v (.int .i64)]],ntmps:=14 } (fun x=>Zuq k x.1 x.2)
theorem Zuq.ok (k:Nat):Ze Yc 42 (Zuq.con k):=fA (cX (cC (Zmd.ok k) cN)) Tryz.func42
def Zbh (k:Nat) (a1:G28) (a2:G86):Option (Bool):=Ya (Z0q k a1 1048576) fun v3=>bif decide (v3<0) then some true else Ya (Zxq a2 v3) fun v4=>bif decide (v4<0) then some true else Ya (Zam k a1) fun v5=>Ya (Z9l k a2) fun v6=>Ya (Zim k v5 ((v6.1,(v6.2.1,(v6.2.2.1,(v6.2.2.2.1,(v6.2.2.2.2.1,(v6.2.2.2.2.2.1,(v6.2.2.2.2.2.2.1,v6.2.2.2.2.2.2.2.1))))))),v6.2.2.2.2.2.2.2.2)) fun v7=>Ya (Zam k a1) fun v8=>Ya (Z9l k a2) fun v9=>let e10:=((v9.1,(v9.2.1,(v9.2.2.1,(v9.2.2.2.1,(v9.2.2.2.2.1,(v9.2.2.2.2.2.1,(v9.2.2.2.2.2.2.1,v9.2.2.2.2.2.2.2.1))))))),v9.2.2.2.2.2.2.2.2);Ya (Z7k k v8 e10) fun v11=>let e12:=((v11.1,(v11.2.1,v11.2.2.1)),v11.2.2.2);let e13:=((v7.1,(v7.2.1,v7.2.2.1)),v7.2.2.2);Ya (Zin k e12 e13) fun v14=>bif !v14 then some false else Ya (Zam k a1) fun v15=>Ya (Zdl k v8 v15) fun v16=>bif !v16 then some false else Ya (Z9l k a2) fun v17=>Ya (Zpq k e10 ((v17.1,(v17.2.1,(v17.2.2.1,(v17.2.2.2.1,(v17.2.2.2.2.1,(v17.2.2.2.2.2.1,(v17.2.2.2.2.2.2.1,v17.2.2.2.2.2.2.2.1))))))),v17.2.2.2.2.2.2.2.2)) fun v18=>bif !v18 then some false else Ya (Zjn k v8 1) fun v19=>Ya (Zuq k e10 v19.1) fun v20=>bif decide (v20.1<0) then some false else Ya (Zin k e12 e13) fun v21=>bif !v21 then some false else Ya (Zvq k e12 1) fun v22=>Ya (Zoo k ((v11.1,(v22.2.1,v22.2.2.1)),(v11.2.2.2.1,(v22.2.2.2,v11.2.2.2.2.2))) 1) fun v23=>bif decide (v23<0) then some false else bif v23 != v22.1 then some false else Ya (Zam k a1) fun v24=>Ya (Z9l k a2) fun v25=>Ya (Z7k k v24 ((v25.1,(v25.2.1,(v25.2.2.1,(v25.2.2.2.1,(v25.2.2.2.2.1,(v25.2.2.2.2.2.1,(v25.2.2.2.2.2.2.1,v25.2.2.2.2.2.2.2.1))))))),v25.2.2.2.2.2.2.2.2)) fun v26=>Ya (Zin k ((v26.1,(v26.2.1,v26.2.2.1)),v26.2.2.2) e13) fun v27=>bif !v27 then some false else Ya (Zoo k ((v11.1,(v22.2.1,v22.2.2.1)),(v11.2.2.2.1,(v22.2.2.2,v11.2.2.2.2.2))) 1) fun v28=>bif decide (v28<0) then some false else bif v28 != v22.1 then some false else some true
def Zbh.sig:Sig:={ ps:=[.val true T28 (ros T28),.val true T86 (ros T86)],rs:=[.val false [.v .bool]],ntmps:=92 }
def Zbh.con (k:Nat):Con:=Zbh.sig.con (fun x=>Zbh k x.1 x.2)
theorem Zbh.ok (k:Nat):Ze Yc 6 (Zbh.con k):=fA (cXr true false (cC (Z0q.ok k) (cC (Zam.ok k) (cC (Zin.ok k) (cC (Zdl.ok k) (cC (Zjn.ok k) (cC (Zvq.ok k) (cC (Zoo.ok k) (cC (Zxq.ok k) (cC (Zim.ok k) (cC (Z9l.ok k) (cC (Z7k.ok k) (cC (Zpq.ok k) (cC (Zuq.ok k) cN)))))))))))))) Tryz.func6
end Go.Proofs.Qz
namespace Go.Proofs.Qz
open Go
set_option linter.unusedVariables false
def Zc (p:Nat→Prop):Prop:=∃K,∀k,K≤k→p k
theorem Zc.of {p:Nat→Prop} (h:∀k,p k):Zc p:=⟨0,fun k _=>h k⟩
theorem Zc.ge {p:Nat→Prop} (K:Nat) (h:∀k,K≤k→p k):Zc p:=⟨K,h⟩
theorem Zc.mono {p q:Nat→Prop} (h:Zc p) (f:∀k,p k→q k):Zc q:=by
 obtain ⟨K,h⟩:=h
 exact ⟨K,fun k hk=>f k (h k hk)⟩
theorem Zc.and {p q:Nat→Prop} (h:Zc p) (g:Zc q):Zc fun k=>p k∧q k:=by
 obtain ⟨K,h⟩:=h
 obtain ⟨J,g⟩:=g
 exact ⟨K+J,fun k hk=>⟨h k (by omega),g k (by omega)⟩⟩
theorem Zc.ex {p:Nat→Prop} (h:Zc p):∃k,p k:=by
 obtain ⟨K,h⟩:=h
 exact ⟨K,h K (Nat.le_refl K)⟩
theorem Zc.all {n:Nat} {p:Nat→Nat→Prop}:(∀i,i<n→Zc (p i))→Zc fun k=>∀i,i<n→p i k:=by
 induction n with
 | zero=>exact fun _=>⟨0,fun k _ i hi=>absurd hi (Nat.not_lt_zero i)⟩
 | succ n ih=>
  intro h;refine ((ih fun i hi=>h i (Nat.lt_succ_of_lt hi)).and (h n (Nat.lt_succ_self n))).mono fun k hk i hi=>?_
  rcases Nat.eq_or_lt_of_le (Nat.le_of_lt_succ hi) with rfl | hi
  ·exact hk.2
  ·exact hk.1 i hi
theorem Zc.two {p q r:Nat→Prop} (h:Zc p) (g:Zc q) (f:∀k,p k→q k→r k):Zc r:=(h.and g).mono fun k hk=>f k hk.1 hk.2
theorem Zss {R:Type} (L:Nat→Nat→Nat→Option R) (n:Nat) (r:R) (hs:Zc fun k=>∀i,i<n→∀j,L k (j+1) i=L k j (i+1)) (hl:Zc fun k=>∀j,L k (j+1) n=some r):Zc fun k=>L k k 0=some r:=by
 obtain ⟨K,hs⟩:=hs
 obtain ⟨J,hl⟩:=hl
 refine ⟨K+J+n+1,fun k hk=>?_⟩
 have hs:=hs k (by omega)
 have hl:=hl k (by omega)
 have key:∀d i j,i+d=n→d<j→L k j i=some r:=by
  intro d
  induction d with
  | zero=>
   intro i j hi hj;obtain ⟨m,rfl⟩:∃m,j=m+1:=⟨j-1,by omega⟩;obtain rfl:i=n:=by omega
   exact hl m
  | succ d ih=>
   intro i j hi hj;obtain ⟨m,rfl⟩:∃m,j=m+1:=⟨j-1,by omega⟩;rw [hs i (by omega) m];exact ih (i+1) m (by omega) (by omega)
 exact key n 0 k (by omega) (by omega)
theorem Z55 {R:Type} (L:Nat→Nat→Option R) (n:Nat) (r:R) (hs:∀i,i<n→∀j,L (j+1) i=L j (i+1)) (hl:∀j,L (j+1) n=some r):Zc fun k=>L k 0=some r:=Zss (fun _ j i=>L j i) n r (Zc.of fun _=>hs) (Zc.of fun _=>hl)
theorem Zqb {R:Type} (L:Nat→Nat→Option R) (n:Nat) (r:R) (hs:∀i,i<n→∀j,L (j+1) i=L j (i+1)) (hl:∀j,L (j+1) n=some r):∀k,n<k→L k 0=some r:=by
 have key:∀d i j,i+d=n→d<j→L j i=some r:=by
  intro d
  induction d with
  | zero=>
   intro i j hi hj;obtain ⟨m,rfl⟩:∃m,j=m+1:=⟨j-1,by omega⟩;obtain rfl:i=n:=by omega
   exact hl m
  | succ d ih=>
   intro i j hi hj;obtain ⟨m,rfl⟩:∃m,j=m+1:=⟨j-1,by omega⟩;rw [hs i (by omega) m];exact ih (i+1) m (by omega) (by omega)
 exact fun k hk=>key n 0 k (by omega) hk
theorem w64 {n:Int} (h0:-9223372036854775808≤n) (h1:n<9223372036854775808):Yb .i64 n=n:=by
 simp [Yb,Yl,Yo]
 omega
theorem wf64 {n:Int} (h:Bnd (.int .i64) n):-9223372036854775808≤n∧n<9223372036854775808:=by
 have h:(Lit.int .i64 n).wf=true:=h
 simp [Lit.wf,IntKind.min,Yt,Yo,Yl] at h
 omega
theorem wn {n:Nat} (h:n<9223372036854775808):Yb .i64 (n:Int)=n:=w64 (by omega) (by omega)
theorem Zm {n:Nat} (h:n<9223372036854775807):Yb .i64 ((n:Int)+1)=((n+1:Nat):Int):=by rw [w64] <;> omega
theorem Zg {α:Type} {l:List α} {i:Nat} (h:i<l.length):at? l (i:Int)=some l[i]:=by
 unfold at?
 rw [Xc (by omega),Yf,Yx h]
theorem Z5 {α:Type} {n:Nat} {a b:List α} (h:(a.length+b.length)*n≤140737488355328):Zt n a b=some (a++b):=Xc h
theorem Zwc {a b:Str} (h:a.length+b.length≤9223372036854775807):Zsc a b=some (a++b):=Xc h
theorem Z0u {α:Type} {b n:Nat} {x:α} (h:n*b≤140737488355328):Z3g b (n:Int) (n:Int) x=some (Ym n x):=by
 unfold Z3g
 rw [Xc ⟨by omega,Int.le_refl _,by rw [Yf];exact h⟩,Yf]
theorem Zwf {α:Type} {l:List α} {i j:Nat} (h:i≤j) (k:j≤l.length):Zpb l (i:Int) (j:Int)=some ((l.take j).drop i):=by
 unfold Zpb
 rw [Xc ⟨by omega,by omega,by omega⟩,Yf,Yf]
theorem Zveb {n b:Nat} (h:n*b≤140737488355328):Z4x n b=some ():=Xc h
theorem Z7q {b:Int} (h:b≠0):nz? b=some ():=Xd h
theorem Z4c {b:Int} (h:0≤b):Zwb b=some ():=Xd (by omega)
theorem Zrgb {α β:Type} {l:List α} (f:α→β) {i:Nat} (h:i<l.length):(l.take (i+1)).map f=(l.take i).map f++[f l[i]]:=by
 rw [Y7,Yx h,List.map_append]
 rfl
theorem Zni {α:Type} {l:List α} {i:Nat} (h:i<l.length):l.take (i+1)=l.take i++[l[i]]:=by
 rw [Y7,Yx h]
 rfl
def Zgm {α S R:Type} (f:S→α→S ⊕ R) (g:S→R):List α→S→R
 | [],s=>g s
 | x::l,s=>match f s x with
  | .inl s'=>Zgm f g l s'
  | .inr r=>r
theorem Z3ob {α S R:Type} {f:S→α→S ⊕ R} {g:S→R} {x:α} {l:List α} {s s':S} (h:f s x = .inl s'):Zgm f g (x::l) s=Zgm f g l s':=by
 have e:Zgm f g (x::l) s=match f s x with | .inl s'=>Zgm f g l s' | .inr r=>r:=rfl
 rw [e,h]
theorem Zpnb {α S R:Type} (L:Nat→S→Int→Option R) (l:List α) (f:S→α→S ⊕ R) (g:S→R) (I:Nat→S→Prop)
  (hs:∀(i:Nat) (h:i<l.length) (s:S),I i s→(∃s',f s l[i] = .inl s'∧I (i+1) s'∧∀j,L (j+1) s (i:Int)=L j s' ((i+1:Nat):Int))∨∃r,f s l[i] = .inr r∧∀j,L (j+1) s (i:Int)=some r)
  (he:∀(s:S),I l.length s→∀j,L (j+1) s (l.length:Int)=some (g s)):∀(d i:Nat) (s:S),i+d=l.length→I i s→∀j,d<j→L j s (i:Int)=some (Zgm f g (l.drop i) s):=by
 intro d
 induction d with
 | zero=>
  intro i s hi hI j hj;obtain ⟨j,rfl⟩:∃q,j=q+1:=⟨j-1,by omega⟩;obtain rfl:i=l.length:=by omega
  rw [Yw,he s hI];rfl
 | succ d ih=>
  intro i s hi hI j hj;obtain ⟨j,rfl⟩:∃q,j=q+1:=⟨j-1,by omega⟩;have hlt:i<l.length:=by omega
  rw [Yv hlt];rcases hs i hlt s hI with ⟨s',h1,h2,h3⟩ | ⟨r,h1,h3⟩
  ·rw [h3 j]
   show _=some (match f s l[i] with | .inl s'=>Zgm f g (l.drop (i+1)) s' | .inr r=>r);rw [h1];exact ih (i+1) s' (by omega) h2 j (by omega)
  ·rw [h3 j]
   show _=some (match f s l[i] with | .inl s'=>Zgm f g (l.drop (i+1)) s' | .inr r=>r);rw [h1]
theorem Zonb {α S R:Type} (L:Nat→S→Int→Option R) (l:List α) (f:S→α→S ⊕ R) (g:S→R) (I:Nat→S→Prop) (hs:∀(i:Nat) (h:i<l.length) (s:S),I i s→(∃s',f s l[i] = .inl s'∧I (i+1) s'∧∀j,L (j+1) s (i:Int)=L j s' ((i+1:Nat):Int))∨∃r,f s l[i] = .inr r∧∀j,L (j+1) s (i:Int)=some r) (he:∀(s:S),I l.length s→∀j,L (j+1) s (l.length:Int)=some (g s)) {s:S} (hI:I 0 s) {k:Nat} (hk:l.length<k):L k s 0=some (Zgm f g l s):=Zpnb L l f g I hs he l.length 0 s (Yn _) hI k hk
def Zmb {α:Type} (p:α→Bool):List α→Nat→Option Nat
 | [],_=>none
 | x::l,i=>if p x then some i else Zmb p l (i+1)
theorem Z2g {α R:Type} (L:Nat→Int→Option R) (l:List α) (p:α→Bool) (a:R) (b:Nat→R)
  (hs:∀(i:Nat) (h:i<l.length),(p l[i]=false→∀j,L (j+1) (i:Int)=L j ((i+1:Nat):Int))∧(p l[i]=true→∀j,L (j+1) (i:Int)=some (b i)))
  (he:∀j,L (j+1) (l.length:Int)=some a) {k:Nat} (hk:l.length<k):L k 0=some (match Zmb p l 0 with | some i=>b i | none=>a):=by
 have key:∀(d i:Nat),i+d=l.length→∀j,d<j→L j (i:Int)=some (match Zmb p (l.drop i) i with | some i=>b i | none=>a):=by
  intro d
  induction d with
  | zero=>
   intro i hi j hj;obtain ⟨j,rfl⟩:∃q,j=q+1:=⟨j-1,by omega⟩;obtain rfl:i=l.length:=by omega
   rw [Yw,he];rfl
  | succ d ih=>
   intro i hi j hj;obtain ⟨j,rfl⟩:∃q,j=q+1:=⟨j-1,by omega⟩;have hlt:i<l.length:=by omega
   rw [Yv hlt];obtain ⟨h1,h2⟩:=hs i hlt;cases hp:p l[i] with
   | true=>rw [h2 hp j];simp [Zmb,hp]
   | false=>
    rw [h1 hp j,ih (i+1) (by omega) j (by omega)];simp [Zmb,hp]
 have:=key l.length 0 (Yn _) k hk
 rwa [Y4] at this
theorem Z4l {α:Type} {p:α→Bool}:∀{l:List α} {n i:Nat},Zmb p l n=some i→n≤i∧∃h:i-n<l.length,p (l[i-n])=true∧∀j,(hj:j<i-n)→p (l[j]'(by omega))=false
 | [],_,_,h=>by cases h
 | x::l,n,i,h=>by
  unfold Zmb at h;split at h
  ·rename_i hp
   cases h;refine ⟨Nat.le_refl _,by simp,?_,fun j hj=>by omega⟩;simpa using hp
  ·rename_i hp
   obtain ⟨h1,h2,h3,h4⟩:=Z4l h;refine ⟨by omega,by simp only [Yq];omega,?_,fun j hj=>?_⟩
   ·have e:i-n=(i-(n+1))+1:=by omega
    simpa [e] using h3
   ·cases j with
    | zero=>simpa using hp
    | succ j=>simpa using h4 j (by omega)
theorem Zus {α:Type} {p:α→Bool}:∀{l:List α} {n:Nat},Zmb p l n=none ↔ ∀x∈l,p x=false
 | [],n=>by simp [Zmb]
 | x::l,n=>by
  unfold Zmb;split
  ·rename_i hp
   simp [hp]
  ·rename_i hp
   rw [Zus];simp at hp;simp [hp]
theorem Zdo {α:Type} {p:α→Bool} {l:List α} {n:Nat}:(Zmb p l n).isSome=l.any p:=by
 cases h:Zmb p l n with
 | none=>
  have:=Zus.1 h
  symm
  simp only [Option.isSome_none,List.any_eq_false];intro x hx;rw [this x hx];exact nofun
 | some i=>
  obtain ⟨_,h2,h3,_⟩:=Z4l h
  symm
  exact List.any_eq_true.2 ⟨_,Y5 h2,h3⟩
theorem Zkw {α:Type} (L:Nat→Int→List α→Option (List α)) (l:List α) (z:α)
  (hs:∀(i:Nat) (h:i<l.length) (c:List α),c.length=l.length→∀j,L (j+1) (i:Int) c=L j ((i+1:Nat):Int) (c.set i l[i]))
  (he:∀(c:List α) j,L (j+1) (l.length:Int) c=some c) {k:Nat} (hk:l.length<k):L k 0 (Ym l.length z)=some l:=by
 have key:∀(d i:Nat),i+d=l.length→∀j,d<j→L j (i:Int) (l.take i++Ym (l.length-i) z)=some l:=by
  intro d
  induction d with
  | zero=>
   intro i hi j hj;obtain ⟨j,rfl⟩:∃q,j=q+1:=⟨j-1,by omega⟩;obtain rfl:i=l.length:=by omega
   rw [he,Yfa,List.take_length];simp
  | succ d ih=>
   intro i hi j hj;obtain ⟨j,rfl⟩:∃q,j=q+1:=⟨j-1,by omega⟩;have hlt:i<l.length:=by omega
   rw [hs i hlt _ (by simp;omega)]
   have e:(l.take i++Ym (l.length-i) z).set i l[i]=l.take (i+1)++Ym (l.length-(i+1)) z:=by
    have hl:(l.take i).length=i:=by simp;omega
    rw [List.set_append_right _ _ (by omega),hl,Yfa,show l.length-i=(l.length-(i+1))+1 by omega,List.replicate_succ,List.set_cons_zero,Zni hlt,Yu];rfl
   rw [e];exact ih (i+1) (by omega) j (by omega)
 have:=key l.length 0 (Yn _) k hk
 simpa using this
theorem dlt {a b:Nat} (h:a<b):decide ((a:Int)<(b:Int))=true:=Xa (by omega)
theorem Zs {a b:Nat} (h:b≤a):decide ((a:Int)<(b:Int))=false:=Xb (by omega)
theorem Za {α β:Type} {x:Option α} {f:α→Option β} {a:α} {b:Option β} (h:x=some a) (k:f a=b):x.bind f=b:=by rw [h];exact k
theorem Z3ib {α:Type} (L:Nat→Nat→Str→Int→Option Str) (l:List α) (f:α→Str) (B M:Nat) (hB:∀x∈l,(f x).length≤B)
  (hs:∀i,(h:i<l.length)→Zc fun k=>∀acc j,acc.length≤M→L k (j+1) acc (i:Int)=L k j (acc++f l[i]) ((i+1:Nat):Int))
  (he:∀k acc j,L k (j+1) acc (l.length:Int)=some acc) (acc:Str) (ha:acc.length+B*l.length≤M):Zc fun k=>L k k acc 0=some (acc++(l.map f).flatten):=by
 have hall:Zc fun k=>∀i,i<l.length→∀(h:i<l.length) acc j,acc.length≤M→L k (j+1) acc (i:Int)=L k j (acc++f l[i]) ((i+1:Nat):Int):=Zc.all fun i hi=>(hs i hi).mono fun k hk h=>hk
 obtain ⟨K,hK⟩:=hall
 refine Zc.ge (K+l.length+1) fun k hk=>?_
 have hK:=hK k (by omega)
 have key:∀(d i:Nat) (acc:Str),i+d=l.length→acc.length+B*d≤M→∀j,d<j→L k j acc (i:Int)=some (acc++((l.drop i).map f).flatten):=by
  intro d
  induction d with
  | zero=>
   intro i acc hi hacc j hj;obtain ⟨j,rfl⟩:∃q,j=q+1:=⟨j-1,by omega⟩;obtain rfl:i=l.length:=by omega
   rw [he,Yw];simp
  | succ d ih=>
   intro i acc hi hacc j hj;obtain ⟨j,rfl⟩:∃q,j=q+1:=⟨j-1,by omega⟩;have h:i<l.length:=by omega
   have hf:=hB _ (Y5 h);rw [Nat.mul_succ] at hacc;rw [hK i h h acc j (by omega),ih (i+1) _ (by omega) (by rw [Yp];omega) j (by omega),Yv h,List.map_cons,List.flatten_cons,Yu]
 have:=key l.length 0 acc (Yn _) ha k (by omega)
 rwa [Y4] at this
theorem u8w (n:Int):Yb .u8 n=n%256:=by simp [Yb,Yl,Yo]
theorem Zyt (n:Int):Yb .u32 n=n%4294967296:=by simp [Yb,Yl,Yo]
theorem Zth (n:Int):Yb .u64 n=n%18446744073709551616:=by simp [Yb,Yl,Yo]
theorem Zhp (a b:Nat) (ha:a<4294967296) (hb:b<4294967296):intBits .xor .u32 (a:Int) (b:Int)=((a ^^^ b:Nat):Int):=by
 have hx:a ^^^ b<2^32:=Yga (by omega) (by omega)
 show Yb .u32 (((Ye 32 (a:Int)) ^^^ (Ye 32 (b:Int))).toNat:Int)=_
 rw [Yh,Yh,BitVec.toNat_xor,Yi,Yi,Zyt,Yg (show a<2^32 by omega),Yg (show b<2^32 by omega)]
 omega
theorem Zm9 (a:Nat) (ha:a<4294967296):intBits .and .u32 (a:Int) 1=((a%2:Nat):Int):=by
 have h:a &&& 1=a%2:=Yaa a
 show Yb .u32 (((Ye 32 (a:Int)) &&& (Ye 32 ((1:Nat):Int))).toNat:Int)=_
 rw [Yh,Yh,Y2,Yi,Yi,Zyt,Yg (show a<2^32 by omega),Yg (show 1<2^32 by omega),h]
 omega
theorem Zeib (a:Nat) (ha:a<18446744073709551616):intBits .and .u64 (a:Int) 1=((a%2:Nat):Int):=by
 have h:a &&& 1=a%2:=Yaa a
 show Yb .u64 (((Ye 64 (a:Int)) &&& (Ye 64 ((1:Nat):Int))).toNat:Int)=_
 rw [Yh,Yh,Y2,Yi,Yi,Zth,Yg (show a<2^64 by omega),Yg (show 1<2^64 by omega),h]
 omega
theorem Zlib (a b:Nat) (ha:a<18446744073709551616) (hb:b<18446744073709551616):intBits .or .u64 (a:Int) (b:Int)=((a ||| b:Nat):Int):=by
 show Yb .u64 (((Ye 64 (a:Int)) ||| (Ye 64 (b:Int))).toNat:Int)=_
 have hx:a ||| b<2^64:=Nat.or_lt_two_pow (by omega) (by omega)
 rw [Yh,Yh,BitVec.toNat_or,Yi,Yi,Zth,Yg (show a<2^64 by omega),Yg (show b<2^64 by omega)]
 omega
theorem Z1hb:∀a:Nat,a<256→intBits .and .u8 ((a:Nat):Int) 127=((a%128:Nat):Int):=by decide +kernel
theorem Z8nb (a:Nat) (h:a<9223372036854775808):intBits .xor .i64 (-1) (a:Int) = -(a:Int)-1:=by
 show Yb .i64 (((Ye 64 (-1)) ^^^ (Ye 64 (a:Int))).toNat:Int)=_
 have e:(Ye 64 (-1))=BitVec.allOnes 64:=by decide
 rw [Yh,e,BitVec.allOnes_xor,BitVec.toNat_not,Yi,IntKind.wrap_i64,Yg (show a<2^64 by omega)]
 omega
theorem Z2i (k:IntKind) (r m:Nat) (h:m≤k.bits):shr k (r:Int) (m:Int)=((r/2^m:Nat):Int):=by
 unfold shr
 rw [Yf,Yba h,Int.fdiv_eq_ediv_of_nonneg _ (by exact Int.le_of_lt (Int.pow_pos (by omega)))]
 push_cast
 rfl
theorem Zjp (c:UInt8):c.toNat<256:=c.toNat_lt
theorem Zuib (c:UInt8):UInt8.ofNat ((c.toNat:Nat):Int).toNat=c:=by simp
def Z3k (r:Nat):Nat:=if r%2=1 then (r/2) ^^^ 3988292384 else r/2
def Zos:Nat→Nat→Nat
 | 0,r=>r
 | n+1,r=>Zos n (Z3k r)
def Zps:Str→Nat→Nat
 | [],r=>r
 | c::l,r=>Zps l (Zos 8 (r ^^^ c.toNat))
def Z1g (c:Nat) (s:Str):Nat:=(Zps s (c ^^^ 4294967295)) ^^^ 4294967295
theorem x32 {a b:Nat} (ha:a<4294967296) (hb:b<4294967296):a ^^^ b<4294967296:=Yga (n:=32) ha hb
theorem Zlw {r:Nat} (h:r<4294967296):Z3k r<4294967296:=by
 unfold Z3k
 split
 ·exact x32 (by omega) (by omega)
 ·omega
theorem Znz:∀(n:Nat) {r:Nat},r<4294967296→Zos n r<4294967296
 | 0,_,h=>h
 | n+1,_,h=>Znz n (Zlw h)
theorem Z93:∀(l:Str) {r:Nat},r<4294967296→Zps l r<4294967296
 | [],_,h=>h
 | c::l,r,h=>Z93 l (Znz 8 (x32 h (by have:=Zjp c;omega)))
def Znu (n:Nat):Str:=Zob [((n%256:Nat):Int),((n/256%256:Nat):Int),((n/65536%256:Nat):Int),((n/16777216%256:Nat):Int)]
def Zeh (s:Str):Str:=s++Znu (Z1g 0 s)
theorem Zww (n:Nat):(Znu n).length=4:=rfl
theorem Zz7 (s:Str):(Zeh s).length=s.length+4:=by unfold Zeh;rw [Yp,Zww]
def Zl (s:Str):Str:=s.take (s.length-4)
theorem Zis (s:Str):(Zl s).length=s.length-4:=by unfold Zl;simp
theorem Z4fb {a b:Str}:Zeh a=Zeh b ↔ a=b:=by
 constructor
 ·intro h
  exact List.append_inj_left' h (by rw [Zww,Zww])
 ·rintro rfl;rfl
theorem Zqgb (s:Str):(Znu (Z1g 0 (Zl s))=s.drop (s.length-4)) ↔ Zeh (Zl s)=s:=by
 have e:s=Zl s++s.drop (s.length-4):=(Y8 _ _).symm
 unfold Zeh
 constructor
 ·intro h;rw [h];exact e.symm
 ·intro h
  exact List.append_cancel_left (h.trans e)
def Zyc (s:Str):Str×Int:=if s.length<4 then ([],4) else if Zeh (Zl s)=s then (Zl s,0) else ([],5)
theorem Ztv {s:Str} (h:(Zyc s).2=0):Zyc s=(Zl s,0)∧Zeh (Zl s)=s∧4≤s.length:=by
 unfold Zyc at h ⊢
 by_cases h4:s.length<4
 ·rw [Xc h4] at h;simp at h
 ·rw [Xd h4] at h ⊢
  by_cases he:Zeh (Zl s)=s
  ·rw [Xc he];exact ⟨rfl,he,by omega⟩
  ·rw [Xd he] at h;simp at h
theorem Zyrb {s:Str} (h:(Zyc s).2≠0):(Zyc s).1=[]:=by
 unfold Zyc at h ⊢
 by_cases h4:s.length<4
 ·rw [Xc h4]
 ·rw [Xd h4] at h ⊢
  by_cases he:Zeh (Zl s)=s
  ·rw [Xc he] at h;exact absurd rfl h
  ·rw [Xd he]
theorem Z7gb (s:Str):(Zyc s).1.length≤s.length:=by
 unfold Zyc
 split
 ·simp
 ·split
  ·rw [Zis];omega
  ·simp
def zig (n:Int):Nat:=if n<0 then (-2*n-1).toNat else (2*n).toNat
def Zkc:Nat→Nat→List Int
 | 0,_=>[]
 | f+1,u=>if 128≤u then ((u%128+128:Nat):Int)::Zkc f (u/128) else [(u:Int)]
def Zn (n:Int):Str:=Zob (Zkc 10 (zig n))
def Num (n:Int):Prop:=-9223372036854775808≤n∧n<9223372036854775808
theorem Zu8 {n:Int} (h:Num n):zig n<18446744073709551616:=by unfold Num at h;unfold zig;split <;> omega
theorem Z4bb:∀(f u:Nat),(Zkc f u).length≤f
 | 0,_=>by simp [Zkc]
 | f+1,u=>by
  unfold Zkc;split
  ·simp only [Yq];have:=Z4bb f (u/128);omega
  ·simp
theorem Zel (l:List Int):(Zob l).length=l.length:=by simp [Zob]
theorem Zhc (n:Int):(Zn n).length≤10:=by
 unfold Zn
 rw [Zel]
 exact Z4bb 10 _
theorem Z76 (n:Int):1≤(Zn n).length:=by
 unfold Zn
 rw [Zel]
 unfold Zkc
 split <;> simp
def Z3b (s:Str):Str:=Zn (s.length:Int)++s
theorem Ztj (s:Str):(Z3b s).length≤10+s.length:=by
 unfold Z3b
 have:=Zhc (s.length:Int)
 rw [Yp]
 omega
def unz (u:Nat):Int:=if u%2=1 then -((u/2:Nat):Int)-1 else ((u/2:Nat):Int)
def gn:Nat→Nat→Nat→Str→Int×Nat×Int
 | 0,_,_,_=>(0,0,3)
 | _+1,_,_,[]=>(0,0,4)
 | f+1,i,u,b::l=>if i=9∧1<b.toNat then (0,0,3) else if 128≤b.toNat then gn f (i+1) (u+b.toNat%128*128^i) l else if b.toNat=0∧0<i then (0,0,3) else (unz (u+b.toNat%128*128^i),i+1,0)
def fin (a:Nat) (r:Int×Nat×Int):Int×Int×Int:=if r.2.2=0 then (r.1,((a+r.2.1:Nat):Int),0) else (0,0,r.2.2)
def Zfd (s:Str) (a:Nat):Int×Int×Int:=fin a (gn 10 0 0 (s.drop a))
theorem Z06 (i:Nat):(2:Nat)^(7*i)=128^i:=by rw [Nat.pow_mul]
theorem Zh2 {i u b:Nat} (_:i≤8) (hu:u<128^i):u+b%128*128^i<128^(i+1):=by
 have h1:b%128≤127:=by omega
 have h2:b%128*128^i≤127*128^i:=Y0 _ h1
 rw [Ys]
 omega
theorem Z2db {i:Nat} (hi:i≤9):128^i≤9223372036854775808:=by
 have:128^i≤128^9:=Yda (by omega) hi
 simpa using this
theorem Zugb {i b:Nat} (hi:i≤9) (h9:i=9→b≤1):b%128*128^i<18446744073709551616:=by
 by_cases h:i=9
 ·have:=h9 h
  subst h;have:b%128≤1:=by omega
  have:=Y0 (128^9) this;simp at this ⊢;omega
 ·have h1:128^i≤128^8:=Yda (by omega) (by omega)
  have h2:b%128≤127:=by omega
  have:=Nat.mul_le_mul h2 h1;simp at this;omega
theorem Zb8 {i u b:Nat} (hi:i≤9) (hu:u<128^i) (h9:i=9→b≤1):u+b%128*128^i<18446744073709551616:=by
 by_cases h:i=9
 ·have:=h9 h
  subst h;have h1:b%128≤1:=by omega
  have:=Y0 (128^9) h1;simp at this hu ⊢;omega
 ·have h1:=Zh2 (b:=b) (show i≤8 by omega) hu
  have h2:=Z2db (show i+1≤9 by omega);omega
theorem Z8fb {i b:Nat} (hi:i≤9) (h9:i=9→b≤1):shl .u64 ((b%128:Nat):Int) ((7*i:Nat):Int)=((b%128*128^i:Nat):Int):=by
 unfold shl
 rw [Yf,Yba (by simp [Yl];omega),Zth]
 have e:((b%128:Nat):Int)*2^(7*i)=((b%128*128^i:Nat):Int):=by rw [← Z06];push_cast;rfl
 rw [e]
 have:=Zugb hi h9
 omega
theorem Zfob {i u b:Nat} (hu:u<128^i):u ||| (b%128*128^i)=u+b%128*128^i:=by
 have h:=@Nat.shiftLeft_add_eq_or_of_lt (7*i) u (by rw [Z06];exact hu) (b%128)
 rw [Nat.shiftLeft_eq,Z06] at h
 rw [Nat.or_comm,← h,Y9]
theorem Z9rb (v:Nat):zig (unz v)=v:=by
 unfold unz
 split
 ·unfold zig;split <;> omega
 ·unfold zig;split <;> omega
theorem Z0rb (n:Int):unz (zig n)=n:=by
 unfold zig
 split
 ·unfold unz;split <;> omega
 ·unfold unz;split <;> omega
theorem Zzrb {v:Nat} (h:v<18446744073709551616):Num (unz v):=by
 unfold Num unz
 split <;> omega
theorem Zybb:∀(f i u:Nat) (l:Str),i+f=10→i≤9→u<128^i→(gn f i u l).2.2=0 →
  ∃v,gn f i u l=(unz (u+v*128^i),i+(Zkc f v).length,0)∧l=Zob (Zkc f v)++l.drop (Zkc f v).length∧u+v*128^i<18446744073709551616∧(0<i→v≠0)
 | 0,i,u,l,hf,h9,_,_=>by omega
 | f+1,i,u,[],hf,h9,hu,h0=>by simp [gn] at h0
 | f+1,i,u,c::l,hf,hi9,hu,h0=>by
  have hb:=Zjp c;have hbc:=Zuib c;simp only [gn] at h0 ⊢;generalize hcb:c.toNat=b at h0 hb hbc ⊢
  by_cases h9:i=9∧1<b
  ·rw [Xc h9] at h0;simp at h0
  rw [Xd h9] at h0 ⊢
  have hb9:i=9→b≤1:=fun h=>by
   rcases Nat.lt_or_ge 1 b with h1 | h1
   ·exact absurd ⟨h,h1⟩ h9
   ·exact h1
  by_cases h128:128≤b
  ·have hi8:i≤8:=by
    by_cases h:i=9
    ·have:=hb9 h;omega
    ·omega
   rw [Xc h128] at h0 ⊢;obtain ⟨v,e1,e2,e3,e4⟩:=Zybb f (i+1) (u+b%128*128^i) l (by omega) (by omega) (Zh2 hi8 hu) h0;have hv:=e4 (by omega)
   have hs:u+b%128*128^i+v*128^(i+1)=u+(b%128+128*v)*128^i:=by
    rw [Ys,Nat.add_mul,Yr (128^i) 128,← Yca,Yr v 128,Yz]
   have hg:Zkc (f+1) (b%128+128*v)=(b:Int)::Zkc f v:=by
    have h1:128≤b%128+128*v:=by omega
    have h2:(b%128+128*v)/128=v:=by omega
    have h3:(b%128+128*v)%128+128=b:=by omega
    simp only [Zkc,Xc h1,h2,h3]
   refine ⟨b%128+128*v,?_,?_,?_,?_⟩
   ·rw [e1,hs,hg,Yq,Yz,Y9 1]
   ·rw [hg]
    show c::l=UInt8.ofNat ((b:Nat):Int).toNat::(Zob (Zkc f v)++l.drop (Zkc f v).length);rw [hbc,← e2]
   ·rw [← hs];exact e3
   ·intro _;omega
  ·rw [Xd h128] at h0 ⊢
   by_cases hz:b=0∧0<i
   ·rw [Xc hz] at h0;simp at h0
   rw [Xd hz] at h0 ⊢;have hm:b%128=b:=by omega
   have hsl:=Zb8 (b:=b) hi9 hu hb9;rw [hm] at hsl ⊢;have hg:Zkc (f+1) b=[(b:Int)]:=by simp only [Zkc,Xd h128]
   refine ⟨b,?_,?_,hsl,?_⟩
   ·rw [hg];rfl
   ·rw [hg]
    show c::l=UInt8.ofNat ((b:Nat):Int).toNat::l;rw [hbc]
   ·intro hi hb0;exact hz ⟨hb0,hi⟩
structure Got (s:Str) (a:Nat) (n:Int) (a':Nat):Prop where
 at':a'=a+(Zn n).length
 le:a'≤s.length
 eq:s.drop a=Zn n++s.drop a'
 range:Num n
theorem Zhl (s:Str) (a:Nat):(∃(n:Int) (a':Nat),Zfd s a=(n,(a':Int),0)∧Got s a n a')∨∃c,c≠0∧Zfd s a=(0,0,c):=by
 unfold Zfd fin
 by_cases h:(gn 10 0 0 (s.drop a)).2.2=0
 ·left
  obtain ⟨v,e1,e2,e3,_⟩:=Zybb 10 0 0 (s.drop a) (by omega) (by omega) (by omega) h;simp only [Yea,Nat.mul_one,Yn] at e1 e3;have hB:Zn (unz v)=Zob (Zkc 10 v):=by unfold Zn;rw [Z9rb]
  have hsz:(Zn (unz v)).length=(Zkc 10 v).length:=by rw [hB,Zel]
  refine ⟨unz v,a+(Zn (unz v)).length,?_,rfl,?_,?_,Zzrb e3⟩
  ·rw [e1,hsz]
   rfl
  ·have:=congrArg List.length e2
   simp only [Yp,Zel,Y6] at this;have hp:0<(Zkc 10 v).length:=by unfold Zkc;split <;> simp
   omega
  ·rw [hsz,← Y3,hB]
   exact e2
 ·right
  exact ⟨_,h,by rw [Xd h]⟩
theorem Zzbb:∀(f i u v:Nat) (l:Str),i+f=10→i≤9→v<128^f→u+v*128^i<18446744073709551616→(0<i→v≠0)→gn f i u (Zob (Zkc f v)++l)=(unz (u+v*128^i),i+(Zkc f v).length,0)
 | 0,i,u,v,l,hf,h9,_,_,_=>by omega
 | f+1,i,u,v,l,hf,hi9,hv,hb,hz=>by
  have h9':i=9→v≤1:=fun h=>by subst h;simp at hb;omega
  by_cases h128:128≤v
  ·have hi8:i≤8:=by
    by_cases h:i=9
    ·have:=h9' h;omega
    ·omega
   have hg:Zkc (f+1) v=((v%128+128:Nat):Int)::Zkc f (v/128):=by simp only [Zkc,Xc h128]
   have ht:(UInt8.ofNat (((v%128+128:Nat):Int)).toNat).toNat=v%128+128:=by
    rw [Yf,UInt8.toNat_ofNat'];omega
   rw [hg];show gn (f+1) i u (UInt8.ofNat (((v%128+128:Nat):Int)).toNat::(Zob (Zkc f (v/128))++l))=_;simp only [gn];rw [ht,Xd (by omega),Xc (by omega)]
   have hs:u+(v%128+128)%128*128^i+v/128*128^(i+1)=u+v*128^i:=by
    have e:(v%128+128)%128=v%128:=by omega
    have e2:v%128*128^i+v/128*(128*128^i)=v*128^i:=by
     rw [← Yca,← Nat.add_mul];congr 1;omega
    rw [e,Ys,Yr (128^i) 128,Yz,e2]
   rw [Zzbb f (i+1) _ (v/128) l (by omega) (by omega) (by rw [Ys] at hv;exact Nat.div_lt_of_lt_mul (by rw [Yr];exact hv)) (by rw [hs];exact hb) (fun _=>by omega),hs];simp only [Yq,Prod.mk.injEq,and_true,true_and];omega
  ·have hg:Zkc (f+1) v=[(v:Int)]:=by simp only [Zkc,Xd h128]
   have ht:(UInt8.ofNat ((v:Int)).toNat).toNat=v:=by
    rw [Yf,UInt8.toNat_ofNat'];omega
   rw [hg];show gn (f+1) i u (UInt8.ofNat ((v:Int)).toNat::l)=_;simp only [gn];rw [ht,Xd (fun q=>by have:=h9' q.1;omega),Xd h128,Xd (fun q=>hz q.2 q.1),Yg (by omega)];rfl
theorem Zzw (n:Int) (h:Num n) (s:Str) (a:Nat) (t:Str) (hs:s.drop a=Zn n++t):Zfd s a=(n,((a+(Zn n).length:Nat):Int),0):=by
 unfold Zfd
 have hz:=Zu8 h
 rw [hs]
 unfold Zn
 rw [Zzbb 10 0 0 (zig n) t rfl (by omega) (by omega) (by omega) (fun q=>absurd q (by omega))]
 simp only [Yea,Nat.mul_one,Yn,Z0rb,Zel]
 rfl
def Zzh (s:Str) (a:Nat):Str×Int×Int:=if (Zfd s a).2.2=0 then if 0≤(Zfd s a).1∧(Zfd s a).1≤8000 then if (Zfd s a).1 > (s.length:Int)-(Zfd s a).2.1 then ([],0,4) else ((s.take ((Zfd s a).2.1+(Zfd s a).1).toNat).drop (Zfd s a).2.1.toNat,(Zfd s a).2.1+(Zfd s a).1,0) else ([],0,3) else ([],0,(Zfd s a).2.2)
structure GotT (s:Str) (a:Nat) (t:Str) (a':Nat):Prop where
 at':a'=a+(Z3b t).length
 le:a'≤s.length
 eq:s.drop a=Z3b t++s.drop a'
 size:t.length≤8000
theorem Z2r (s:Str) (a:Nat):(∃t a',Zzh s a=(t,((a':Nat):Int),0)∧GotT s a t a')∨∃c,c≠0∧Zzh s a=([],0,c):=by
 unfold Zzh
 rcases Zhl s a with ⟨n,a',e,g⟩ | ⟨c,hc,e⟩
 ·rw [e]
  simp only [if_true]
  by_cases hn:0≤n∧n≤8000
  ·rw [Xc hn]
   have hle:=g.le
   by_cases hs:n > (s.length:Int)-(a':Int)
   ·rw [Xc hs]
    exact .inr ⟨4,by omega,rfl⟩
   ·rw [Xd hs]
    obtain ⟨m,rfl⟩:∃m:Nat,n=(m:Int):=⟨n.toNat,by omega⟩;have e1:((a':Int)+(m:Int)).toNat=a'+m:=by omega
    rw [e1,Yf]
    have hB:(s.take (a'+m)).drop a'=(s.drop a').take m:=by
     rw [List.drop_take,Nat.add_sub_cancel_left]
    have hsz:((s.take (a'+m)).drop a').length=m:=by
     rw [hB,List.length_take,Y6];omega
    refine .inl ⟨_,a'+m,by push_cast;rfl,?_,?_,?_,?_⟩
    ·unfold Z3b
     rw [Yp,hsz];have:=g.at';omega
    ·omega
    ·unfold Z3b
     rw [hsz,hB,g.eq,Yu,← Y3,Y8]
    ·rw [hsz];omega
  ·rw [Xd hn]
   exact .inr ⟨3,by omega,rfl⟩
 ·rw [e]
  simp only;rw [Xd hc];exact .inr ⟨c,hc,rfl⟩
def Zib (s:Str) (a:Nat):Int×Str×Int×Bool:=if (Zfd s a).2.2=0 then ((Zfd s a).1,s,(Zfd s a).2.1,false) else (0,s,(a:Int),true)
theorem Z5u (s:Str) (a:Nat):(∃n a',Zib s a=(n,s,((a':Nat):Int),false)∧Got s a n a')∨Zib s a=(0,s,(a:Int),true):=by
 unfold Zib
 rcases Zhl s a with ⟨n,a',e,g⟩ | ⟨c,hc,e⟩
 ·left;exact ⟨n,a',by rw [e];rfl,g⟩
 ·right;rw [e,Xd hc]
def Zcg (s:Str) (a:Nat):Str×Str×Int×Bool:=if (Zzh s a).2.2=0 then ((Zzh s a).1,s,(Zzh s a).2.1,false) else ([],s,(a:Int),true)
theorem Zvgb (s:Str) (a:Nat):(∃t a',Zcg s a=(t,s,((a':Nat):Int),false)∧GotT s a t a')∨Zcg s a=([],s,(a:Int),true):=by
 unfold Zcg
 rcases Z2r s a with ⟨n,a',e,g⟩ | ⟨c,hc,e⟩
 ·left;exact ⟨n,a',by rw [e];rfl,g⟩
 ·right;rw [e,Xd hc]
end Go.Proofs.Qz
