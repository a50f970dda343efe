/- What the law FnMachine needs, part 8 of 16: the Lean functions of the Go functions that it reaches, with the proofs that the calls come to what they say, and plain facts about them. Conditions: those that each theorem states. Written by a session and by its programs (after the kit's printer). -/
import Derived.Test.YtmohoeinamddcaaGreatXFnMachine6
open Option renaming bind → Ya
open Go.IntKind renaming wrap → Yb
open Go.Proofs.Tryz renaming prog → Yc, f184 → Yg, f196 → Yh, f222 → Yi, f231 → Yj, f107 → Yk, f185 → Yl, f93 → Ym
open Int renaming toNat → Yd, tmod → Yf
open List renaming set → Ye
namespace Go.Proofs.Qz
open Go Go.RowKit
set_option linter.unusedVariables false
set_option linter.defProp false
def Zbr (k:Nat) (a1:G27) (a2:Int) (a3:Str):Option (List Str×List Zx×Str×Int):=bif decide (8000<((a3.length):Int)) then Ya (Zql 2) fun v4=>some (v4.1,v4.2.1,v4.2.2.1,v4.2.2.2) else Ya (Z7 k a1) fun v5=>bif (!v5)||(decide (96<((a3.length):Int))) then Ya (Zql 1) fun v6=>some (v6.1,v6.2.1,v6.2.2.1,v6.2.2.2) else Ya (Z9 a2 0 (Yb .i64 (((a1.1.length):Int)-1))) fun v7=>bif !v7 then Ya (Zql 8) fun v8=>some (v8.1,v8.2.1,v8.2.2.1,v8.2.2.2) else Ya (Zfg k a1 a2 a3) fun v9=>some (v9.1,v9.2,[],0)
def Zbr.con (k:Nat):Con:=Sig.con { ps:=[.val true T27 (ros T27),.val false (.int .i64) (ros (.int .i64)),.val false .str (ros .str)],rs:=[.val true [.own 9 .str,.own 144 Zv,.v .str,.v (.int .i64)]],ntmps:=33 } (fun x=>Zbr k x.1 x.2.1 x.2.2)
theorem Zbr.ok (k:Nat):Ze Yc 87 (Zbr.con k):=fA (cXr true false (cC (Z9.ok k) (cC (Zql.ok k) (cC (Z7.ok k) (cC (Zfg.ok k) cN))))) Tryz.func87
def Z3d.l0 (k:Nat):Nat→List G60→Int→Str→Int→List Str→List Zx→Option ((Str×Int×List Str×List Zx))
 | 0,_,_,_,_,_,_=>none
 | j+1,a1,a2,a3,a4,a5,a6=>bif (decide (a2<((a1.length):Int)))&&(a4==0) then Ya (at? a1 a2) fun v7=>let e8:=Yb .i64 (a2+1);bif v7.1 then Ya (Zar k (a5,a6)) fun v9=>Z3d.l0 k j a1 e8 v9.2.2.1 v9.2.2.2 v9.1 v9.2.1 else Ya (at? a1 a2) fun v10=>Ya (at? a1 a2) fun v11=>Ya (Zbr k (a5,a6) v10.2.1 v11.2.2) fun v12=>Z3d.l0 k j a1 e8 v12.2.2.1 v12.2.2.2 v12.1 v12.2.1 else some (a3,a4,a5,a6)
def Z3d (k:Nat) (a1:G27) (a2:List G60):Option (List Str×List Zx×Str×Int):=Ya (Zpl a1) fun v3=>Ya (Z3d.l0 k k a2 0 [] 0 v3.1 v3.2) fun y4=>bif y4.2.1 != 0 then Ya (Zql y4.2.1) fun v5=>some (v5.1,v5.2.1,v5.2.2.1,v5.2.2.2) else some (y4.2.2.1,y4.2.2.2,y4.1,y4.2.1)
def Z3d.con (k:Nat):Con:=Sig.con { ps:=[.val true T27 (ros T27),.val false (.sl T60) (ros (.sl T60))],rs:=[.val true [.own 9 .str,.own 144 Zv,.v .str,.v (.int .i64)]],ntmps:=49 } (fun x=>Z3d k x.1 x.2)
def Z3d.cok (k:Nat):=cXr true false (cC (Zpl.ok k) (cC (Zar.ok k) (cC (Zbr.ok k) (cC (Zql.ok k) cN))))
def Z3d.l0.s (k:Nat):Summ:=lp 49 { tmps:=[(1,.one (.bor T60)),(5,.one (.ptr 3 0)),(6,.one (.v (.int .i64)))],slots:=[(3,.box 73 [.own 4,.own 5,.v .str,.v (.int .i64)]),(4,.arr false 9 .str),(5,.arr false 144 Zv)],nb:=6 } [(.exit 0,{ tmps:=[],slots:=[(3,.box 73 [.own 6,.own 7,.v .str,.v (.int .i64)]),(6,.arr false 9 .str),(7,.arr false 144 Zv)],nb:=8 })] (fun j x=>Z3d.l0 k j x.1 x.2.1 x.2.2.1 x.2.2.2.1 x.2.2.2.2.1 x.2.2.2.2.2) k
def Z3d.l0.ok (k:Nat):=(lA (Z3d.cok k):Zl Yc _ (.loop (cO (cO (cR (cL (cR (cR (cB Tryz.f40)))))))) (Z3d.l0.s k))
theorem Z3d.ok (k:Nat):Ze Yc 40 (Z3d.con k):=fP (.two .auto (.two .auto (.two (.two .auto (.one (.sum (Z3d.l0.s k)))) .auto))) (Z3d.cok k) Tryz.func40 (sC (Z3d.l0.ok k) sN)
def Zub.l0:Nat→Int→List Str→List Zx→Int→Option (Unit ⊕ Str)
 | 0,_,_,_,_=>none
 | j+1,a1,a2,a3,a4=>bif decide (a4<((a3.length):Int)) then Ya (at? a3 a4) fun v5=>bif v5.1==a1 then Ya (at? a3 a4) fun v6=>some (.inr (v6.2)) else Zub.l0 j a1 a2 a3 (Yb .i64 (a4+1)) else some (.inl ())
def Zub (k:Nat) (a1:G27) (a2:Int):Option (Str):=Ya (Zub.l0 k a2 a1.1 a1.2 0) fun
  | .inl y3=>Ya (at? a1.1 a2) fun v4=>some v4
  | .inr y5=>some y5
def Zub.con (k:Nat):Con:=Sig.con { ps:=[.val true T27 (ros T27),.val false (.int .i64) (ros (.int .i64))],rs:=[.val false [.v .str]],ntmps:=32 } (fun x=>Zub k x.1 x.2)
def Zub.cok (k:Nat):=cXr true false cN
def Zub.l0.s (k:Nat):Summ:=lp 32 { tmps:=[(1,.one (.v (.int .i64))),(2,.eptr [.bor .str,.bor Zv]),(5,.one (.v (.int .i64)))],slots:=[],nb:=0 } [(.exit 0,{ tmps:=[],slots:=[],nb:=0 }),(.ret,{ tmps:=[(4,.one (.v .str))],slots:=[],nb:=0 })] (fun j x=>Zub.l0 j x.1 x.2.1 x.2.2.1 x.2.2.2) k
def Zub.l0.ok (k:Nat):=(lA (Zub.cok k):Zl Yc _ (.loop (cO (cO (cR (cL (cR (cB Tryz.f114))))))) (Zub.l0.s k))
theorem Zub.ok (k:Nat):Ze Yc 114 (Zub.con k):=fP (.two .auto (.two (.two .auto (.one (.sum (Zub.l0.s k)))) .auto)) (Zub.cok k) Tryz.func114 (sC (Zub.l0.ok k) sN)
def Zwn (a1:Int):Option (Str):=Ya (Zbc 8) fun v2=>Ya (Zbc 16) fun v3=>Ya (Zbc 24) fun v4=>some (Ztb [(Yb .u8 a1),(Yb .u8 (shr .i64 a1 8)),(Yb .u8 (shr .i64 a1 16)),(Yb .u8 (shr .i64 a1 24))])
def Zwn.con (k:Nat):Con:=Sig.con { ps:=[.val false (.int .i64) (ros (.int .i64))],rs:=[.val false [.v .str]],ntmps:=16 } (fun x=>Zwn x)
theorem Zwn.ok (k:Nat):Ze Yc 106 (Zwn.con k):=fA (cX cN) Tryz.func106
def Zjc.l0:Nat→Int→Int→Option (Int)
 | 0,_,_=>none
 | j+1,a1,a2=>bif decide (a2<8) then let e3:=Yb .i64 (a2+1);bif (intBits .and .u32 a1 1)==1 then Ya (Zbc 1) fun v4=>Zjc.l0 j (intBits .xor .u32 (shr .u32 a1 1) 3988292384) e3 else Ya (Zbc 1) fun v5=>Zjc.l0 j (shr .u32 a1 1) e3 else some a1
def Zjc.l1 (k:Nat):Nat→Str→Int→Int→Option (Int)
 | 0,_,_,_=>none
 | j+1,a1,a2,a3=>bif decide (a3<((a1.length):Int)) then Ya (at? a1 a3) fun v4=>Ya (Zjc.l0 k (intBits .xor .u32 a2 (Yb .u32 (v4.toNat:Int))) 0) fun y5=>Zjc.l1 k j a1 y5 (Yb .i64 (a3+1)) else some a2
def Zjc (k:Nat) (a1:Int) (a2:Str):Option (Int):=Ya (Zjc.l1 k k a2 (intBits .xor .u32 (Yb .u32 a1) 4294967295) 0) fun y3=>some (Yb .i64 (intBits .xor .u32 y3 4294967295))
def Zjc.con (k:Nat):Con:=Sig.con { ps:=[.val false (.int .i64) (ros (.int .i64)),.val false .str (ros .str)],rs:=[.val false [.v (.int .i64)]],ntmps:=38 } (fun x=>Zjc k x.1 x.2)
def Zjc.cok (k:Nat):=cX cN
def Zjc.l0.s (k:Nat):Summ:=lp 38 { tmps:=[(5,.one (.v (.int .u32))),(7,.one (.v (.int .i64)))],slots:=[],nb:=0 } [(.exit 2,{ tmps:=[(5,.one (.v (.int .u32)))],slots:=[],nb:=0 })] (fun j x=>Zjc.l0 j x.1 x.2) k
def Zjc.l0.ok (k:Nat):=(lA (Zjc.cok k):Zl Yc _ (.loop (cO (cO (cR (cR (cO (cL (cR (cO (cO (cR (cL (cR (cR (cB Yk))))))))))))))) (Zjc.l0.s k))
def Zjc.l1.s (k:Nat):Summ:=lp 38 { tmps:=[(1,.one (.v .str)),(5,.one (.v (.int .u32))),(6,.one (.v (.int .i64)))],slots:=[],nb:=0 } [(.exit 0,{ tmps:=[(5,.one (.v (.int .u32)))],slots:=[],nb:=0 })] (fun j x=>Zjc.l1 k j x.1 x.2.1 x.2.2) k
def Zjc.l1.ok (k:Nat):=(lP (.two .auto (.two (.one (.two .auto (.two .auto (.one (.sum (Zjc.l0.s k)))))) .auto)) (Zjc.cok k) (sC (Zjc.l0.ok k) sN):Zl Yc _ (.loop (cO (cO (cR (cL (cR (cR (cB Yk)))))))) (Zjc.l1.s k))
theorem Zjc.ok (k:Nat):Ze Yc 107 (Zjc.con k):=fP (.two .auto (.two .auto (.two (.two .auto (.one (.sum (Zjc.l1.s k)))) .auto))) (Zjc.cok k) Tryz.func107 (sC (Zjc.l1.ok k) sN)
def Z0j (k:Nat) (a1:Str):Option (Str×Int×Int):=bif decide (8000<((a1.length):Int)) then some ([],0,2) else bif decide (((a1.length):Int)<4) then some ([],0,4) else let e2:=Yb .i64 (((a1.length):Int)-4);Ya (Z2b a1 0 e2) fun v3=>Ya (Zjc k 0 v3) fun v4=>Ya (Zwn v4) fun v5=>Ya (Z2b a1 e2 ((a1.length):Int)) fun v6=>bif !(v5==v6) then some ([],0,5) else some (v3,0,0)
def Z0j.con (k:Nat):Con:=Sig.con { ps:=[.val false .str (ros .str)],rs:=[.val true [.v .str,.v (.int .i64),.v (.int .i64)]],ntmps:=29 } (fun x=>Z0j k x)
theorem Z0j.ok (k:Nat):Ze Yc 54 (Z0j.con k):=fA (cX (cC (Zwn.ok k) (cC (Zjc.ok k) cN))) Tryz.func54
def Zzj (k:Nat) (a1:Str):Option (Str):=bif decide (7996<((a1.length):Int)) then some ([]) else Ya (Zjc k 0 a1) fun v2=>Ya (Zwn v2) fun v3=>Ya (Z2c a1 v3) fun v4=>some v4
def Zzj.con (k:Nat):Con:=Sig.con { ps:=[.val false .str (ros .str)],rs:=[.val false [.v .str]],ntmps:=11 } (fun x=>Zzj k x)
theorem Zzj.ok (k:Nat):Ze Yc 53 (Zzj.con k):=fA (cX (cC (Zwn.ok k) (cC (Zjc.ok k) cN))) Tryz.func53
def Zfr (a1:Int):Option (Int):=bif decide (a1<0) then some (Yb .u64 ((Yb .u64 (2*(Yb .u64 (Yb .i64 (0-(Yb .i64 (a1+1)))))))+1)) else some (Yb .u64 (2*(Yb .u64 a1)))
def Zfr.con (k:Nat):Con:=Sig.con { ps:=[.val false (.int .i64) (ros (.int .i64))],rs:=[.val false [.v (.int .u64)]],ntmps:=14 } (fun x=>Zfr x)
theorem Zfr.ok (k:Nat):Ze Yc 123 (Zfr.con k):=fA (cX cN) Tryz.func123
def Zec.l0:Nat→Int→List Int→Option ((Int×List Int))
 | 0,_,_=>none
 | j+1,a1,a2=>bif decide (128≤a1) then Ya (nz? 128) fun v3=>Ya (Zw 1 a2 [(Yb .u8 (Yb .u64 ((Yf a1 128)+128)))]) fun v4=>Ya (nz? 128) fun v5=>Zec.l0 j (Yb .u64 (Int.tdiv a1 128)) v4 else some (a1,a2)
def Zec (k:Nat) (a1:Int):Option (Str):=Ya (Zfr a1) fun v2=>Ya (Zec.l0 k v2 []) fun y3=>Ya (Zw 1 y3.2 [(Yb .u8 y3.1)]) fun v4=>some (Ztb v4)
def Zec.con (k:Nat):Con:=Sig.con { ps:=[.val false (.int .i64) (ros (.int .i64))],rs:=[.val false [.v .str]],ntmps:=25 } (fun x=>Zec k x)
def Zec.cok (k:Nat):=cX (cC (Zfr.ok k) cN)
def Zec.l0.s (k:Nat):Summ:=lp 25 { tmps:=[(3,.one (.v (.int .u64))),(4,.one (.own 1))],slots:=[(1,.arr false 5 (.int .u8))],nb:=2 } [(.exit 0,{ tmps:=[(3,.one (.v (.int .u64))),(4,.one (.own 2))],slots:=[(2,.arr false 5 (.int .u8))],nb:=3 })] (fun j x=>Zec.l0 j x.1 x.2) k
def Zec.l0.ok (k:Nat):=(lA (Zec.cok k):Zl Yc _ (.loop (cO (cO (cL (cR (cR (cR (cB Tryz.f70)))))))) (Zec.l0.s k))
theorem Zec.ok (k:Nat):Ze Yc 70 (Zec.con k):=fP (.two .auto (.two .auto (.two .auto (.two (.one (.sum (Zec.l0.s k))) .auto)))) (Zec.cok k) Tryz.func70 (sC (Zec.l0.ok k) sN)
def Zgj (k:Nat) (a1:Str):Option (Str):=bif decide (8000<((a1.length):Int)) then some ([]) else Ya (Zec k ((a1.length):Int)) fun v2=>Ya (Z2c v2 a1) fun v3=>some v3
def Zgj.con (k:Nat):Con:=Sig.con { ps:=[.val false .str (ros .str)],rs:=[.val false [.v .str]],ntmps:=11 } (fun x=>Zgj k x)
theorem Zgj.ok (k:Nat):Ze Yc 71 (Zgj.con k):=fA (cX (cC (Zec.ok k) cN)) Tryz.func71
def Zfj (k:Nat) (a1:Int) (a2:Str):Option (Str):=Ya (Z9 a1 1 1000000) fun v3=>bif (!v3)||(decide (80<((a2.length):Int))) then some ([]) else Ya (Zec k a1) fun v4=>Ya (Zgj k a2) fun v5=>Ya (Z2c v4 v5) fun v6=>Ya (Zzj k v6) fun v7=>some v7
def Zfj.con (k:Nat):Con:=Sig.con { ps:=[.val false (.int .i64) (ros (.int .i64)),.val false .str (ros .str)],rs:=[.val false [.v .str]],ntmps:=19 } (fun x=>Zfj k x.1 x.2)
theorem Zfj.ok (k:Nat):Ze Yc 90 (Zfj.con k):=fA (cX (cC (Zzj.ok k) (cC (Z9.ok k) (cC (Zec.ok k) (cC (Zgj.ok k) cN))))) Tryz.func90
def Z9d.l0:Nat→Str→Int→Int→Int→Int→Int→Int→Option ((Int×Int×Int) ⊕ (Int×Int×Int))
 | 0,_,_,_,_,_,_,_=>none
 | j+1,a1,a2,a3,a4,a5,a6,a7=>bif decide (a4<10) then bif decide ((Yb .i64 (((a1.length):Int)-a4))≤a2) then some (.inr (0,0,4)) else let e8:=Yb .i64 (a2+a4);Ya (at? a1 e8) fun v9=>bif (a4==9)&&(decide (1<(Yb .u64 (v9.toNat:Int)))) then some (.inr (0,0,3)) else Ya (nz? 128) fun v10=>let e11:=Yb .u64 (Yb .i64 (7*a4));Ya (Zbc e11) fun v12=>let e13:=Yb .u64 (a3+(shl .u64 (Yf (Yb .u64 (v9.toNat:Int)) 128) e11));bif decide ((Yb .u64 (v9.toNat:Int))<128) then bif ((Yb .u64 (v9.toNat:Int))==0)&&(decide (0<a4)) then some (.inr (0,0,3)) else Ya (nz? 2) fun v14=>Ya (nz? 2) fun v15=>let e16:=Yb .i64 (e8+1);let e17:=Yb .i64 (Yb .u64 (Int.tdiv e13 2));bif (Yf e13 2)==1 then some (.inr (Yb .i64 ((Yb .i64 (0-e17))-1),e16,0)) else some (.inr (e17,e16,0)) else Z9d.l0 j a1 a2 e13 (Yb .i64 (a4+1)) a5 a6 a7 else some (.inl (a5,a6,a7))
def Z9d (k:Nat) (a1:Str) (a2:Int):Option (Int×Int×Int):=bif decide (8000<((a1.length):Int)) then some (0,0,2) else bif decide (a2<0) then some (0,0,1) else Ya (Z9d.l0 k a1 a2 0 0 0 0 0) fun
  | .inl y3=>some (0,0,3)
  | .inr y4=>some (y4.1,y4.2.1,y4.2.2)
def Z9d.con (k:Nat):Con:=Sig.con { ps:=[.val false .str (ros .str),.val false (.int .i64) (ros (.int .i64))],rs:=[.val true [.v (.int .i64),.v (.int .i64),.v (.int .i64)]],ntmps:=73 } (fun x=>Z9d k x.1 x.2)
def Z9d.cok (k:Nat):=cX cN
def Z9d.l0.s (k:Nat):Summ:=lp 73 { tmps:=[(0,.one (.v .str)),(1,.one (.v (.int .i64))),(4,.one (.ptr 0 0)),(5,.one (.v (.int .u64))),(6,.one (.v (.int .i64)))],slots:=[(0,.box 157 [.v (.int .i64),.v (.int .i64),.v (.int .i64)])],nb:=1 } [(.exit 0,{ tmps:=[],slots:=[(0,.box 157 [.v (.int .i64),.v (.int .i64),.v (.int .i64)])],nb:=1 }),(.ret,{ tmps:=[],slots:=[(0,.box 157 [.v (.int .i64),.v (.int .i64),.v (.int .i64)])],nb:=1 })] (fun j x=>Z9d.l0 j x.1 x.2.1 x.2.2.1 x.2.2.2.1 x.2.2.2.2.1 x.2.2.2.2.2.1 x.2.2.2.2.2.2) k
def Z9d.l0.ok (k:Nat):=(lA (Z9d.cok k):Zl Yc _ (.loop (cO (cO (cR (cL (cR (cR (cR (cR (cB Tryz.f127)))))))))) (Z9d.l0.s k))
theorem Z9d.ok (k:Nat):Ze Yc 127 (Z9d.con k):=fP (.two .auto (.two .auto (.two .auto (.two .auto (.two (.two .auto (.one (.sum (Z9d.l0.s k)))) .auto))))) (Z9d.cok k) Tryz.func127 (sC (Z9d.l0.ok k) sN)
def Zjm (k:Nat) (a1:Str) (a2:Int):Option (Str×Int×Int):=Ya (Z9d k a1 a2) fun v3=>bif v3.2.2 != 0 then some ([],0,v3.2.2) else bif (decide (v3.1<0))||(decide (8000<v3.1)) then some ([],0,3) else bif decide ((Yb .i64 (((a1.length):Int)-v3.1))<v3.2.1) then some ([],0,4) else let e4:=Yb .i64 (v3.2.1+v3.1);Ya (Z2b a1 v3.2.1 e4) fun v5=>some (v5,e4,0)
def Zjm.con (k:Nat):Con:=Sig.con { ps:=[.val false .str (ros .str),.val false (.int .i64) (ros (.int .i64))],rs:=[.val true [.v .str,.v (.int .i64),.v (.int .i64)]],ntmps:=48 } (fun x=>Zjm k x.1 x.2)
theorem Zjm.ok (k:Nat):Ze Yc 128 (Zjm.con k):=fA (cX (cC (Z9d.ok k) cN)) Tryz.func128
def Zml (k:Nat) (a1:Str):Option (Int×Str×Int):=Ya (Z0j k a1) fun v2=>bif v2.2.2 != 0 then some (0,[],v2.2.2) else Ya (Z9d k v2.1 0) fun v3=>Ya (Zjm k v2.1 v3.2.1) fun v4=>bif (v3.2.2 != 0)||(v4.2.2 != 0) then some (0,[],3) else Ya (Zfj k v3.1 v4.1) fun v5=>bif !(v5==a1) then some (0,[],3) else some (v3.1,v4.1,0)
def Zml.con (k:Nat):Con:=Sig.con { ps:=[.val false .str (ros .str)],rs:=[.val true [.v (.int .i64),.v .str,.v (.int .i64)]],ntmps:=45 } (fun x=>Zml k x)
theorem Zml.ok (k:Nat):Ze Yc 145 (Zml.con k):=fA (cX (cC (Z0j.ok k) (cC (Zfj.ok k) (cC (Z9d.ok k) (cC (Zjm.ok k) cN))))) Tryz.func145
def Zrl (k:Nat) (a1:G27):Option (Int×Str×Int×Int):=Ya (Zub k a1 0) fun v2=>Ya (Zml k v2) fun v3=>Ya (Zub k a1 1) fun v4=>Ya (Zml k v4) fun v5=>bif (v3.2.2==0)&&((v5.2.2 != 0)||(decide (v5.1≤v3.1))) then some (v3.1,v3.2.1,v3.2.2,0) else bif v5.2.2==0 then some (v5.1,v5.2.1,v5.2.2,1) else some (0,[],6,(-1))
def Zrl.con (k:Nat):Con:=Sig.con { ps:=[.val true T27 (ros T27)],rs:=[.val true [.v (.int .i64),.v .str,.v (.int .i64)],.val false [.v (.int .i64)]],ntmps:=35 } (fun x=>Zrl k x)
theorem Zrl.ok (k:Nat):Ze Yc 89 (Zrl.con k):=fA (cXr true false (cC (Zub.ok k) (cC (Zml.ok k) cN))) Tryz.func89
def Zzn (k:Nat) (a1:G27) (a2:Str):Option (List G60):=Ya (Zrl k a1) fun v3=>bif decide (1000000≤v3.1) then some ([]) else let e4:=(true,(0,[]));bif v3.2.2.2 != 0 then Ya (Zfj k (Yb .i64 (v3.1+1)) a2) fun v5=>some ([(false,(0,v5)),e4]) else Ya (Zfj k (Yb .i64 (v3.1+1)) a2) fun v6=>some ([(false,(1,v6)),e4])
def Zzn.con (k:Nat):Con:=Sig.con { ps:=[.val true T27 (ros T27),.val false .str (ros .str)],rs:=[.val false [.own 60 T60]],ntmps:=28 } (fun x=>Zzn k x.1 x.2)
theorem Zzn.ok (k:Nat):Ze Yc 41 (Zzn.con k):=fA (cXr true false (cC (Zrl.ok k) (cC (Zfj.ok k) cN))) Tryz.func41
def Znc.l0:Nat→List Int→Int→Option (Unit ⊕ Bool)
 | 0,_,_=>none
 | j+1,a1,a2=>bif decide (a2<((a1.length):Int)) then Ya (at? a1 a2) fun v3=>Ya (Z9 v3 0 23) fun v4=>bif !v4 then some (.inr false) else let e5:=Yb .i64 (a2+1);bif decide (0<a2) then Ya (at? a1 (Yb .i64 (a2-1))) fun v6=>Ya (at? a1 a2) fun v7=>bif decide (v7≤v6) then some (.inr false) else Znc.l0 j a1 e5 else Znc.l0 j a1 e5 else some (.inl ())
def Znc (k:Nat) (a1:List Int):Option (Bool):=bif decide (24<((a1.length):Int)) then some false else Ya (Znc.l0 k a1 0) fun
  | .inl y2=>some true
  | .inr y3=>some y3
def Znc.con (k:Nat):Con:=Sig.con { ps:=[.val false (.sl (.int .i64)) (ros (.sl (.int .i64)))],rs:=[.val false [.v .bool]],ntmps:=35 } (fun x=>Znc k x)
def Znc.cok (k:Nat):=cX (cC (Z9.ok k) cN)
def Znc.l0.s (k:Nat):Summ:=lp 35 { tmps:=[(0,.one (.bor (.int .i64))),(3,.one (.v (.int .i64)))],slots:=[],nb:=0 } [(.exit 0,{ tmps:=[],slots:=[],nb:=0 }),(.ret,{ tmps:=[(2,.one (.v .bool))],slots:=[],nb:=0 })] (fun j x=>Znc.l0 j x.1 x.2) k
def Znc.l0.ok (k:Nat):=(lA (Znc.cok k):Zl Yc _ (.loop (cO (cO (cR (cL (cR (cR (cB Tryz.f146)))))))) (Znc.l0.s k))
theorem Znc.ok (k:Nat):Ze Yc 146 (Znc.con k):=fP (.two .auto (.two .auto (.two (.two .auto (.one (.sum (Znc.l0.s k)))) .auto))) (Znc.cok k) Tryz.func146 (sC (Znc.l0.ok k) sN)
def Zle.l0:Nat→List Int→Int→Int→Option (Int)
 | 0,_,_,_=>none
 | j+1,a1,a2,a3=>bif decide (a3<((a1.length):Int)) then Ya (at? a1 a3) fun v4=>Ya (Zbc v4) fun v5=>Zle.l0 j a1 (Yb .i64 (a2+(shl .i64 1 v4))) (Yb .i64 (a3+1)) else some a2
def Zle (k:Nat) (a1:List Int):Option (Int):=Ya (Znc k a1) fun v2=>bif !v2 then some (-1) else Ya (Zle.l0 k a1 0 0) fun y3=>some y3
def Zle.con (k:Nat):Con:=Sig.con { ps:=[.val false (.sl (.int .i64)) (ros (.sl (.int .i64)))],rs:=[.val false [.v (.int .i64)]],ntmps:=22 } (fun x=>Zle k x)
def Zle.cok (k:Nat):=cX (cC (Znc.ok k) cN)
def Zle.l0.s (k:Nat):Summ:=lp 22 { tmps:=[(0,.one (.bor (.int .i64))),(3,.one (.v (.int .i64))),(4,.one (.v (.int .i64)))],slots:=[],nb:=0 } [(.exit 0,{ tmps:=[(3,.one (.v (.int .i64)))],slots:=[],nb:=0 })] (fun j x=>Zle.l0 j x.1 x.2.1 x.2.2) k
def Zle.l0.ok (k:Nat):=(lA (Zle.cok k):Zl Yc _ (.loop (cO (cO (cR (cL (cR (cR (cR (cB Tryz.f91))))))))) (Zle.l0.s k))
theorem Zle.ok (k:Nat):Ze Yc 91 (Zle.con k):=fP (.two .auto (.two .auto (.two .auto (.two (.two .auto (.one (.sum (Zle.l0.s k)))) .auto)))) (Zle.cok k) Tryz.func91 (sC (Zle.l0.ok k) sN)
def Zuk (k:Nat) (a1:G49):Option (Str):=Ya (Zec k a1.1) fun v2=>Ya (Zec k a1.2.1) fun v3=>Ya (Z2c v2 v3) fun v4=>Ya (Zec k a1.2.2.1) fun v5=>Ya (Z2c v4 v5) fun v6=>Ya (Zec k a1.2.2.2.1) fun v7=>Ya (Z2c v6 v7) fun v8=>Ya (Zec k a1.2.2.2.2.1) fun v9=>Ya (Z2c v8 v9) fun v10=>Ya (Zle k a1.2.2.2.2.2.2.1) fun v11=>Ya (Zec k v11) fun v12=>Ya (Z2c v10 v12) fun v13=>Ya (Zle k a1.2.2.2.2.2.2.2) fun v14=>Ya (Zec k v14) fun v15=>Ya (Z2c v13 v15) fun v16=>Ya (Zgj k a1.2.2.2.2.2.1) fun v17=>Ya (Z2c v16 v17) fun v18=>some v18
def Zuk.con (k:Nat):Con:=Sig.con { ps:=[.val true T49 (ros T49)],rs:=[.val false [.v .str]],ntmps:=36 } (fun x=>Zuk k x)
theorem Zuk.ok (k:Nat):Ze Yc 42 (Zuk.con k):=fA (cXr true false (cC (Zec.ok k) (cC (Zgj.ok k) (cC (Zle.ok k) cN)))) Tryz.func42
def Zye.l0:Nat→List Str→Int→List Str→List Zx→Option ((List Str×List Zx))
 | 0,_,_,_,_=>none
 | j+1,a1,a2,a3,a4=>bif decide (a2<((a1.length):Int)) then Ya (at? a1 a2) fun v5=>let e6:=Yb .i64 (3+a2);let e7:=at? a3 e6;Ya (e7) fun v8=>Ya (e7) fun v9=>Zye.l0 j a1 (Yb .i64 (a2+1)) (Ye a3 (Yd e6) v5) a4 else some (a3,a4)
def Zye (k:Nat) (a1:List Str):Option (Int×List Str×List Zx×Int):=bif decide (400<((a1.length):Int)) then some (0,[],[],2) else Ya (Zvc k a1) fun v2=>bif !v2 then some (0,[],[],1) else Ya (Z9q (Yb .i64 ((Yb .i64 (3+((a1.length):Int)))+24))) fun v3=>Ya (Zye.l0 k a1 0 v3.1 v3.2) fun y4=>Ya (Zuk k (1,(0,(0,(0,(0,([],([],[])))))))) fun v5=>Ya (Zzn k y4 v5) fun v6=>Ya (Z3d k y4 v6) fun v7=>some (((a1.length):Int),v7.1,v7.2.1,0)
def Zye.con (k:Nat):Con:=Sig.con { ps:=[.val false (.sl .str) (ros (.sl .str))],rs:=[.val true [.v (.int .i64),.own 9 .str,.own 144 Zv,.v (.int .i64)]],ntmps:=45 } (fun x=>Zye k x)
def Zye.cok (k:Nat):=cX (cC (Zvc.ok k) (cC (Z9q.ok k) (cC (Z3d.ok k) (cC (Zzn.ok k) (cC (Zuk.ok k) cN)))))
def Zye.l0.s (k:Nat):Summ:=lp 45 { tmps:=[(0,.one (.bor .str)),(3,.one (.ptr 3 0)),(4,.one (.v (.int .i64)))],slots:=[(3,.box 27 [.own 4,.own 5]),(4,.arr false 9 .str),(5,.arr false 144 Zv)],nb:=6 } [(.exit 0,{ tmps:=[],slots:=[(3,.box 27 [.own 6,.own 7]),(6,.arr false 9 .str),(7,.arr false 144 Zv)],nb:=8 })] (fun j x=>Zye.l0 j x.1 x.2.1 x.2.2.1 x.2.2.2) k
def Zye.l0.ok (k:Nat):=(lA (Zye.cok k):Zl Yc _ (.loop (cO (cO (cR (cL (cR (cR (cR (cR (cB Tryz.f6)))))))))) (Zye.l0.s k))
theorem Zye.ok (k:Nat):Ze Yc 6 (Zye.con k):=fP (.two .auto (.two .auto (.two .auto (.two .auto (.two (.two .auto (.one (.sum (Zye.l0.s k)))) .auto))))) (Zye.cok k) Tryz.func6 (sC (Zye.l0.ok k) sN)
def Z2h (k:Nat) (a1:Int) (a2:Int) (a3:Str):Option (Str):=Ya (Z9 a1 0 1000000) fun v4=>bif !v4 then some ([]) else Ya (Z9 a2 0 39) fun v5=>bif (!v5)||(((a3.length):Int) != 8) then some ([]) else Ya (Zec k a1) fun v6=>Ya (Zec k a2) fun v7=>Ya (Z2c v6 v7) fun v8=>Ya (Zgj k a3) fun v9=>Ya (Z2c v8 v9) fun v10=>Ya (Zzj k v10) fun v11=>some v11
def Z2h.con (k:Nat):Con:=Sig.con { ps:=[.val false (.int .i64) (ros (.int .i64)),.val false (.int .i64) (ros (.int .i64)),.val false .str (ros .str)],rs:=[.val false [.v .str]],ntmps:=29 } (fun x=>Z2h k x.1 x.2.1 x.2.2)
theorem Z2h.ok (k:Nat):Ze Yc 24 (Z2h.con k):=fA (cX (cC (Zzj.ok k) (cC (Z9.ok k) (cC (Zec.ok k) (cC (Zgj.ok k) cN))))) Tryz.func24
def Z7e.j0 (a1:Int) (a2:List Int) (a3:Int) (a4:Int) (a5:Int) (a6:Int) (a7:Int) (a8:Int) (a9:Str):Option ((List Int×Int×Int×Int×Int×Int×Int×Str)):=bif decide (3≤a6) then Ya (Zp (a2,(a3,(a4,a5))) a1) fun v10=>some (v10.2.1,v10.2.2.1,v10.2.2.2.1,v10.2.2.2.2,a6,a7,v10.1,a9) else some (a2,a3,a4,a5,a6,a7,a8,a9)
def Z7e (a1:Z1g) (a2:Int):Option (Int×Int×Int×Str×List Int×Int×Int×Int):=Ya (Zp a1 4) fun v3=>Ya (Zp v3.2 a2) fun v4=>Ya (Z7e.j0 a2 v4.2.1 v4.2.2.1 v4.2.2.2.1 v4.2.2.2.2 (Yb .i64 (1+v3.1)) v4.1 0 []) fun y5=>bif (y5.2.2.2.2.1==2)||(y5.2.2.2.2.1==4) then Ya (Z5h (y5.1,(y5.2.1,(y5.2.2.1,y5.2.2.2.1)))) fun v6=>some (y5.2.2.2.2.1,y5.2.2.2.2.2.1,y5.2.2.2.2.2.2.1,v6.1,v6.2.1,v6.2.2.1,v6.2.2.2.1,v6.2.2.2.2) else some (y5.2.2.2.2.1,y5.2.2.2.2.2.1,y5.2.2.2.2.2.2.1,y5.2.2.2.2.2.2.2,y5.1,y5.2.1,y5.2.2.1,y5.2.2.2.1)
def Z7e.con (k:Nat):Con:=Sig.con { ps:=[.ref 107 Zgc (Zcc Zgc),.val false (.int .i64) (ros (.int .i64))],rs:=[.val true [.v (.int .i64),.v (.int .i64),.v (.int .i64),.v .str]],ntmps:=32 } (fun x=>Z7e x.1 x.2)
def Z7e.cok (k:Nat):=cX (cC (Zp.ok k) (cC (Z5h.ok k) cN))
def Z7e.j0.s (k:Nat):Summ:=lq 32 { tmps:=[(0,.one (.ptr 0 0)),(1,.one (.v (.int .i64))),(5,.one (.ptr 2 0))],slots:=[(0,.box 107 [.v (.sl (.int .u8)),.v (.int .i64),.v (.int .u64),.v (.int .i64)]),(2,.box 99 [.v (.int .i64),.v (.int .i64),.v (.int .i64),.v .str])],nb:=3 } [(.nrm,{ tmps:=[],slots:=[(0,.box 107 [.v (.sl (.int .u8)),.v (.int .i64),.v (.int .u64),.v (.int .i64)]),(2,.box 99 [.v (.int .i64),.v (.int .i64),.v (.int .i64),.v .str])],nb:=3 })] (fun x=>Z7e.j0 x.1 x.2.1 x.2.2.1 x.2.2.2.1 x.2.2.2.2.1 x.2.2.2.2.2.1 x.2.2.2.2.2.2.1 x.2.2.2.2.2.2.2.1 x.2.2.2.2.2.2.2.2)
def Z7e.j0.ok (k:Nat):=(jA (Z7e.cok k):Zl Yc _ (cL (cR (cR (cB Tryz.f149)))) (Z7e.j0.s k))
theorem Z7e.ok (k:Nat):Ze Yc 149 (Z7e.con k):=fP (.two .auto (.two .auto (.two (.sum (Z7e.j0.s k)) .auto))) (Z7e.cok k) Tryz.func149 (sC (Z7e.j0.ok k) sN)
def Zog.j0 (a1:List Int) (a2:Int) (a3:Int) (a4:Int) (a5:Int) (a6:Int) (a7:Int) (a8:Str):Option ((List Int×Int×Int×Int×Int×Int×Int×Str)):=Ya (Z9b (a1,(a2,(a3,a4))) 6) fun v9=>bif v9.1 then Ya (Zp v9.2 9) fun v10=>some (v10.2.1,v10.2.2.1,v10.2.2.2.1,v10.2.2.2.2,5,0,v10.1,[]) else some (v9.2.1,v9.2.2.1,v9.2.2.2.1,v9.2.2.2.2,a5,a6,a7,a8)
def Zog (k:Nat) (a1:Z1g):Option (Int×Int×Int×Str×List Int×Int×Int×Int):=Ya (Z7e a1 4) fun v2=>Ya (Zog.j0 v2.2.2.2.2.1 v2.2.2.2.2.2.1 v2.2.2.2.2.2.2.1 v2.2.2.2.2.2.2.2 v2.1 v2.2.1 v2.2.2.1 v2.2.2.2.1) fun y3=>Ya (Z9b (y3.1,(y3.2.1,(y3.2.2.1,y3.2.2.2.1))) 10) fun v4=>bif v4.1 then Ya (Zp v4.2 5) fun v5=>bif v5.1==0 then Ya (Zp v5.2 7) fun v6=>some (v6.1,y3.2.2.2.2.2.1,y3.2.2.2.2.2.2.1,y3.2.2.2.2.2.2.2,v6.2.1,v6.2.2.1,v6.2.2.2.1,v6.2.2.2.2) else bif v5.1==1 then Ya (Zp v5.2 3) fun v7=>let e8:=at? [(-1),7,8] v7.1;Ya (e8) fun v9=>Ya (e8) fun v10=>some (y3.2.2.2.2.1,v10,y3.2.2.2.2.2.2.1,y3.2.2.2.2.2.2.2,v7.2.1,v7.2.2.1,v7.2.2.2.1,v7.2.2.2.2) else bif v5.1==2 then Ya (Zp v5.2 5) fun v11=>let e12:=at? [(-1),7,8,1000000,1000001] v11.1;Ya (e12) fun v13=>Ya (e12) fun v14=>some (y3.2.2.2.2.1,y3.2.2.2.2.2.1,v14,y3.2.2.2.2.2.2.2,v11.2.1,v11.2.2.1,v11.2.2.2.1,v11.2.2.2.2) else bif v5.1==3 then Ya (Zp v5.2 3) fun v15=>Ya (Zmd k v15.2 (Yb .i64 (7+v15.1))) fun v16=>some (y3.2.2.2.2.1,y3.2.2.2.2.2.1,y3.2.2.2.2.2.2.1,v16.1,v16.2.1,v16.2.2.1,v16.2.2.2.1,v16.2.2.2.2) else some (y3.2.2.2.2.1,y3.2.2.2.2.2.1,y3.2.2.2.2.2.2.1,[],v5.2.1,v5.2.2.1,v5.2.2.2.1,v5.2.2.2.2) else some (y3.2.2.2.2.1,y3.2.2.2.2.2.1,y3.2.2.2.2.2.2.1,y3.2.2.2.2.2.2.2,v4.2.1,v4.2.2.1,v4.2.2.2.1,v4.2.2.2.2)
def Zog.con (k:Nat):Con:=Sig.con { ps:=[.ref 107 Zgc (Zcc Zgc)],rs:=[.val true [.v (.int .i64),.v (.int .i64),.v (.int .i64),.v .str]],ntmps:=46 } (fun x=>Zog k x)
def Zog.cok (k:Nat):=cX (cC (Zp.ok k) (cC (Z9b.ok k) (cC (Zmd.ok k) (cC (Z7e.ok k) cN))))
def Zog.j0.s (k:Nat):Summ:=lq 46 { tmps:=[(0,.one (.ptr 0 0)),(3,.one (.ptr 2 0))],slots:=[(0,.box 107 [.v (.sl (.int .u8)),.v (.int .i64),.v (.int .u64),.v (.int .i64)]),(2,.box 99 [.v (.int .i64),.v (.int .i64),.v (.int .i64),.v .str])],nb:=3 } [(.nrm,{ tmps:=[],slots:=[(0,.box 107 [.v (.sl (.int .u8)),.v (.int .i64),.v (.int .u64),.v (.int .i64)]),(2,.box 99 [.v (.int .i64),.v (.int .i64),.v (.int .i64),.v .str])],nb:=3 })] (fun x=>Zog.j0 x.1 x.2.1 x.2.2.1 x.2.2.2.1 x.2.2.2.2.1 x.2.2.2.2.2.1 x.2.2.2.2.2.2.1 x.2.2.2.2.2.2.2)
def Zog.j0.ok (k:Nat):=(jA (Zog.cok k):Zl Yc _ (cL (cR (cR (cB Tryz.f99)))) (Zog.j0.s k))
theorem Zog.ok (k:Nat):Ze Yc 99 (Zog.con k):=fP (.two .auto (.two .auto (.two (.sum (Zog.j0.s k)) .auto))) (Zog.cok k) Tryz.func99 (sC (Zog.j0.ok k) sN)
def Zts:Option (List Int):=some ([1779033703,3144134277,1013904242,2773480762,1359893119,2600822924,528734635,1541459225])
def Zts.con (k:Nat):Con:=Sig.con { ps:=[],rs:=[.val false [.own 2 (.int .i64)]],ntmps:=2 } (fun x=>Zts )
theorem Zts.ok (k:Nat):Ze Yc 221 (Zts.con k):=fA (cX cN) Tryz.func221
def Zqh (a1:Int) (a2:Int):Option (Int):=Ya (Zbc a2) fun v3=>let e4:=Yb .u64 (32-a2);Ya (Zbc e4) fun v5=>some (intBits .or .u32 (shr .u32 a1 a2) (shl .u32 a1 e4))
def Zqh.con (k:Nat):Con:=Sig.con { ps:=[.val false (.int .u32) (ros (.int .u32)),.val false (.int .u64) (ros (.int .u64))],rs:=[.val false [.v (.int .u32)]],ntmps:=13 } (fun x=>Zqh x.1 x.2)
theorem Zqh.ok (k:Nat):Ze Yc 237 (Zqh.con k):=fA (cX cN) Tryz.func237
def Z1j:Option (List Int):=some ([1116352408,1899447441,3049323471,3921009573,961987163,1508970993,2453635748,2870763221,3624381080,310598401,607225278,1426881987,1925078388,2162078206,2614888103,3248222580,3835390401,4022224774,264347078,604807628,770255983,1249150122,1555081692,1996064986,2554220882,2821834349,2952996808,3210313671,3336571891,3584528711,113926993,338241895,666307205,773529912,1294757372,1396182291,1695183700,1986661051,2177026350,2456956037,2730485921,2820302411,3259730800,3345764771,3516065817,3600352804,4094571909,275423344,430227734,506948616,659060556,883997877,958139571,1322822218,1537002063,1747873779,1955562222,2024104815,2227730452,2361852424,2428436474,2756734187,3204031479,3329325298])
def Z1j.con (k:Nat):Con:=Sig.con { ps:=[],rs:=[.val false [.own 191 (.int .u32)]],ntmps:=2 } (fun x=>Z1j )
theorem Z1j.ok (k:Nat):Ze Yc 238 (Z1j.con k):=fA (cX cN) Tryz.func238
def Zt.l0:Nat→Str→Int→List Int→Option ((List Int))
 | 0,_,_,_=>none
 | j+1,a1,a2,a3=>bif decide (a2<16) then let e4:=Yb .i64 (4*a2);Ya (at? a1 e4) fun v5=>Ya (Zbc 24) fun v6=>Ya (at? a1 (Yb .i64 (e4+1))) fun v7=>Ya (Zbc 16) fun v8=>Ya (at? a1 (Yb .i64 (e4+2))) fun v9=>Ya (Zbc 8) fun v10=>Ya (at? a1 (Yb .i64 (e4+3))) fun v11=>Ya (at? a3 a2) fun v12=>Ya (at? a3 a2) fun v13=>Zt.l0 j a1 (Yb .i64 (a2+1)) (Ye a3 (Yd a2) (intBits .or .u32 (intBits .or .u32 (intBits .or .u32 (shl .u32 (Yb .u32 (v5.toNat:Int)) 24) (shl .u32 (Yb .u32 (v7.toNat:Int)) 16)) (shl .u32 (Yb .u32 (v9.toNat:Int)) 8)) (Yb .u32 (v11.toNat:Int)))) else some a3
def Zt.l1:Nat→Int→List Int→Option ((List Int))
 | 0,_,_=>none
 | j+1,a1,a2=>bif decide (a1<64) then let e3:=at? a2 (Yb .i64 (a1-15));Ya (e3) fun v4=>Ya (e3) fun v5=>let e6:=at? a2 (Yb .i64 (a1-2));Ya (e6) fun v7=>Ya (e6) fun v8=>let e9:=at? a2 (Yb .i64 (a1-16));Ya (e9) fun v10=>Ya (e9) fun v11=>Ya (Zqh v5 7) fun v12=>Ya (Zqh v5 18) fun v13=>Ya (Zbc 3) fun v14=>let e15:=at? a2 (Yb .i64 (a1-7));Ya (e15) fun v16=>Ya (e15) fun v17=>Ya (Zqh v8 17) fun v18=>Ya (Zqh v8 19) fun v19=>Ya (Zbc 10) fun v20=>Ya (at? a2 a1) fun v21=>Ya (at? a2 a1) fun v22=>Zt.l1 j (Yb .i64 (a1+1)) (Ye a2 (Yd a1) (Yb .u32 ((Yb .u32 ((Yb .u32 (v11+(intBits .xor .u32 (intBits .xor .u32 v12 v13) (shr .u32 v5 3))))+v17))+(intBits .xor .u32 (intBits .xor .u32 v18 v19) (shr .u32 v8 10))))) else some a2
def Zt.l2:Nat→Int→Int→Int→Int→Int→Int→Int→Int→Int→List Int→List Int→Option ((Int×Int×Int×Int×Int×Int×Int×Int))
 | 0,_,_,_,_,_,_,_,_,_,_,_=>none
 | j+1,a1,a2,a3,a4,a5,a6,a7,a8,a9,a10,a11=>bif decide (a9<64) then Ya (Zqh a5 6) fun v12=>Ya (Zqh a5 11) fun v13=>Ya (Zqh a5 25) fun v14=>Ya (at? a11 a9) fun v15=>Ya (at? a11 a9) fun v16=>Ya (at? a10 a9) fun v17=>Ya (at? a10 a9) fun v18=>Ya (Zqh a1 2) fun v19=>Ya (Zqh a1 13) fun v20=>Ya (Zqh a1 22) fun v21=>let e22:=Yb .u32 ((Yb .u32 ((Yb .u32 ((Yb .u32 (a8+(intBits .xor .u32 (intBits .xor .u32 v12 v13) v14)))+(intBits .xor .u32 (intBits .and .u32 a5 a6) (intBits .and .u32 (intBits .xor .u32 (IntKind.max .u32) a5) a7))))+v16))+v18);Zt.l2 j (Yb .u32 (e22+(Yb .u32 ((intBits .xor .u32 (intBits .xor .u32 v19 v20) v21)+(intBits .xor .u32 (intBits .xor .u32 (intBits .and .u32 a1 a2) (intBits .and .u32 a1 a3)) (intBits .and .u32 a2 a3)))))) a1 a2 a3 (Yb .u32 (a4+e22)) a5 a6 a7 (Yb .i64 (a9+1)) a10 a11 else some (a1,a2,a3,a4,a5,a6,a7,a8)
def Zt.l3:Nat→List Int→Int→List Int→List Int→Option ((List Int))
 | 0,_,_,_,_=>none
 | j+1,a1,a2,a3,a4=>bif decide (a2<8) then Ya (at? a1 a2) fun v5=>Ya (at? a3 a2) fun v6=>Ya (at? a3 a2) fun v7=>Ya (Zw 8 a4 [(Yb .i64 (Yb .u32 ((Yb .u32 v5)+v7)))]) fun v8=>Zt.l3 j a1 (Yb .i64 (a2+1)) a3 v8 else some a4
def Zt (k:Nat) (a1:List Int) (a2:Str):Option (List Int):=Ya (Z9g 4 64 64 0) fun v3=>Ya (Zt.l0 k a2 0 v3) fun y4=>Ya (Zt.l1 k 16 y4) fun y5=>Ya (at? a1 0) fun v6=>Ya (at? a1 1) fun v7=>Ya (at? a1 2) fun v8=>Ya (at? a1 3) fun v9=>Ya (at? a1 4) fun v10=>Ya (at? a1 5) fun v11=>Ya (at? a1 6) fun v12=>Ya (at? a1 7) fun v13=>Ya (Z1j ) fun v14=>Ya (Zt.l2 k (Yb .u32 v6) (Yb .u32 v7) (Yb .u32 v8) (Yb .u32 v9) (Yb .u32 v10) (Yb .u32 v11) (Yb .u32 v12) (Yb .u32 v13) 0 y5 v14) fun y15=>Ya (Zt.l3 k a1 0 [y15.1,y15.2.1,y15.2.2.1,y15.2.2.2.1,y15.2.2.2.2.1,y15.2.2.2.2.2.1,y15.2.2.2.2.2.2.1,y15.2.2.2.2.2.2.2] []) fun y16=>some y16
def Zt.con (k:Nat):Con:=Sig.con { ps:=[.val false (.sl (.int .i64)) (ros (.sl (.int .i64))),.val false .str (ros .str)],rs:=[.val false [.own 2 (.int .i64)]],ntmps:=235 } (fun x=>Zt k x.1 x.2)
def Zt.cok (k:Nat):=cX (cC (Zqh.ok k) (cC (Z1j.ok k) cN))
def Zt.l0.s (k:Nat):Summ:=lp 235 { tmps:=[(1,.one (.v .str)),(5,.one (.own 1)),(6,.one (.v (.int .i64)))],slots:=[(1,.arr false 191 (.int .u32))],nb:=2 } [(.exit 0,{ tmps:=[(5,.one (.own 2))],slots:=[(2,.arr false 191 (.int .u32))],nb:=3 })] (fun j x=>Zt.l0 j x.1 x.2.1 x.2.2) k
def Zt.l0.ok (k:Nat):=(lA (Zt.cok k):Zl Yc _ (.loop (cO (cO (cR (cL (cR (cR (cB Yi)))))))) (Zt.l0.s k))
def Zt.l1.s (k:Nat):Summ:=lp 235 { tmps:=[(5,.one (.own 3)),(7,.one (.v (.int .i64)))],slots:=[(3,.arr false 191 (.int .u32))],nb:=4 } [(.exit 2,{ tmps:=[(5,.one (.own 4))],slots:=[(4,.arr false 191 (.int .u32))],nb:=5 })] (fun j x=>Zt.l1 j x.1 x.2) k
def Zt.l1.ok (k:Nat):=(lA (Zt.cok k):Zl Yc _ (.loop (cO (cO (cR (cL (cR (cR (cR (cB Yi))))))))) (Zt.l1.s k))
def Zt.l2.s (k:Nat):Summ:=lp 235 { tmps:=[(5,.one (.own 6)),(10,.one (.v (.int .u32))),(11,.one (.v (.int .u32))),(12,.one (.v (.int .u32))),(13,.one (.v (.int .u32))),(14,.one (.v (.int .u32))),(15,.one (.v (.int .u32))),(16,.one (.v (.int .u32))),(17,.one (.v (.int .u32))),(18,.one (.own 7)),(19,.one (.v (.int .i64)))],slots:=[(6,.arr false 191 (.int .u32)),(7,.arr false 191 (.int .u32))],nb:=8 } [(.exit 4,{ tmps:=[(10,.one (.v (.int .u32))),(11,.one (.v (.int .u32))),(12,.one (.v (.int .u32))),(13,.one (.v (.int .u32))),(14,.one (.v (.int .u32))),(15,.one (.v (.int .u32))),(16,.one (.v (.int .u32))),(17,.one (.v (.int .u32)))],slots:=[],nb:=8 })] (fun j x=>Zt.l2 j x.1 x.2.1 x.2.2.1 x.2.2.2.1 x.2.2.2.2.1 x.2.2.2.2.2.1 x.2.2.2.2.2.2.1 x.2.2.2.2.2.2.2.1 x.2.2.2.2.2.2.2.2.1 x.2.2.2.2.2.2.2.2.2.1 x.2.2.2.2.2.2.2.2.2.2) k
def Zt.l2.ok (k:Nat):=(lA (Zt.cok k):Zl Yc _ (.loop (cO (cO (cR (cL (cR (cR (cR (cR (cR (cR (cR (cB Yi))))))))))))) (Zt.l2.s k))
def Zt.l3.s (k:Nat):Summ:=lp 235 { tmps:=[(0,.one (.bor (.int .i64))),(22,.one (.own 10)),(23,.one (.own 11)),(24,.one (.v (.int .i64)))],slots:=[(10,.arr false 191 (.int .u32)),(11,.arr false 2 (.int .i64))],nb:=12 } [(.exit 6,{ tmps:=[(23,.one (.own 12))],slots:=[(12,.arr false 2 (.int .i64))],nb:=13 })] (fun j x=>Zt.l3 j x.1 x.2.1 x.2.2.1 x.2.2.2) k
def Zt.l3.ok (k:Nat):=(lA (Zt.cok k):Zl Yc _ (.loop (cO (cO (cR (cL (cR (cR (cR (cR (cR (cR (cR (cR (cR (cR (cB Yi)))))))))))))))) (Zt.l3.s k))
theorem Zt.ok (k:Nat):Ze Yc 222 (Zt.con k):=fP (.two .auto (.two .auto (.two (.two .auto (.one (.sum (Zt.l0.s k)))) (.two (.two .auto (.one (.sum (Zt.l1.s k)))) (.two .auto (.two .auto (.two .auto (.two (.two .auto (.one (.sum (Zt.l2.s k)))) (.two .auto (.two .auto (.two (.two .auto (.one (.sum (Zt.l3.s k)))) .auto))))))))))) (Zt.cok k) Tryz.func222 (sC (Zt.l0.ok k) (sC (Zt.l1.ok k) (sC (Zt.l2.ok k) (sC (Zt.l3.ok k) sN))))
def Zu.l0:Nat→List Int→Option ((List Int))
 | 0,_=>none
 | j+1,a1=>Ya (nz? 64) fun v2=>bif (Yf ((a1.length):Int) 64) != 56 then Ya (Zw 1 a1 [0]) fun v3=>Zu.l0 j v3 else some a1
def Zu.l1:Nat→Int→Int→List Int→Option ((List Int))
 | 0,_,_,_=>none
 | j+1,a1,a2,a3=>bif decide (0≤a2) then Ya (Zbc (Yb .u64 a2)) fun v4=>Ya (Zw 1 a3 [(Yb .u8 (shr .u64 a1 (Yb .u64 a2)))]) fun v5=>Zu.l1 j a1 (Yb .i64 (a2-8)) v5 else some a3
def Zu.l2 (k:Nat):Nat→List Int→Int→List Int→Option ((List Int))
 | 0,_,_,_=>none
 | j+1,a1,a2,a3=>bif decide (a2<((a1.length):Int)) then let e4:=Yb .i64 (a2+64);Ya (Z2b a1 a2 e4) fun v5=>Ya (Zt k a3 (Ztb v5)) fun v6=>Zu.l2 k j a1 e4 v6 else some a3
def Zu.l3:Nat→Int→List Int→List Int→Option ((List Int))
 | 0,_,_,_=>none
 | j+1,a1,a2,a3=>bif decide (a1<8) then Ya (at? a2 a1) fun v4=>Ya (at? a2 a1) fun v5=>Ya (Zbc 24) fun v6=>Ya (Zbc 16) fun v7=>Ya (Zbc 8) fun v8=>Ya (Zw 1 a3 [(Yb .u8 (shr .i64 v5 24)),(Yb .u8 (shr .i64 v5 16)),(Yb .u8 (shr .i64 v5 8)),(Yb .u8 v5)]) fun v9=>Zu.l3 j (Yb .i64 (a1+1)) a2 v9 else some a3
def Zu (k:Nat) (a1:Str):Option (Str):=Ya (Z7w (a1.length) 1) fun v2=>Ya (Zw 1 (Zgb a1) [128]) fun v3=>Ya (Zu.l0 k v3) fun y4=>Ya (Zu.l1 k (Yb .u64 (Yb .i64 (8*((a1.length):Int)))) 56 y4) fun y5=>Ya (Zts ) fun v6=>Ya (Zu.l2 k k y5 0 v6) fun y7=>Ya (Zu.l3 k 0 y7 []) fun y8=>some (Ztb y8)
def Zu.con (k:Nat):Con:=Sig.con { ps:=[.val false .str (ros .str)],rs:=[.val false [.v .str]],ntmps:=78 } (fun x=>Zu k x)
def Zu.cok (k:Nat):=cX (cC (Zts.ok k) (cC (Zt.ok k) cN))
def Zu.l0.s (k:Nat):Summ:=lp 78 { tmps:=[(3,.one (.own 3))],slots:=[(3,.arr true 5 (.int .u8))],nb:=4 } [(.exit 0,{ tmps:=[(3,.one (.own 4))],slots:=[(4,.arr true 5 (.int .u8))],nb:=5 })] (fun j x=>Zu.l0 j x) k
def Zu.l0.ok (k:Nat):=(lA (Zu.cok k):Zl Yc _ (.loop (cO (cO (cL (cR (cR (cB Yh))))))) (Zu.l0.s k))
def Zu.l1.s (k:Nat):Summ:=lp 78 { tmps:=[(3,.one (.own 5)),(4,.one (.v (.int .u64))),(5,.one (.v (.int .i64)))],slots:=[(5,.arr true 5 (.int .u8))],nb:=6 } [(.exit 2,{ tmps:=[(3,.one (.own 6))],slots:=[(6,.arr true 5 (.int .u8))],nb:=7 })] (fun j x=>Zu.l1 j x.1 x.2.1 x.2.2) k
def Zu.l1.ok (k:Nat):=(lA (Zu.cok k):Zl Yc _ (.loop (cO (cO (cR (cL (cR (cR (cR (cR (cB Yh)))))))))) (Zu.l1.s k))
def Zu.l2.s (k:Nat):Summ:=lp 78 { tmps:=[(3,.one (.v (.sl (.int .u8)))),(6,.one (.own 8)),(7,.one (.v (.int .i64)))],slots:=[(8,.arr false 2 (.int .i64))],nb:=9 } [(.exit 4,{ tmps:=[(6,.one (.own 9))],slots:=[(9,.arr false 2 (.int .i64))],nb:=10 })] (fun j x=>Zu.l2 k j x.1 x.2.1 x.2.2) k
def Zu.l2.ok (k:Nat):=(lA (Zu.cok k):Zl Yc _ (.loop (cO (cO (cR (cL (cR (cR (cR (cR (cR (cR (cB Yh)))))))))))) (Zu.l2.s k))
def Zu.l3.s (k:Nat):Summ:=lp 78 { tmps:=[(6,.one (.own 11)),(8,.one (.own 12)),(9,.one (.v (.int .i64)))],slots:=[(11,.arr false 2 (.int .i64)),(12,.arr false 5 (.int .u8))],nb:=13 } [(.exit 6,{ tmps:=[(8,.one (.own 13))],slots:=[(13,.arr false 5 (.int .u8))],nb:=14 })] (fun j x=>Zu.l3 j x.1 x.2.1 x.2.2) k
def Zu.l3.ok (k:Nat):=(lA (Zu.cok k):Zl Yc _ (.loop (cO (cO (cR (cL (cR (cR (cR (cR (cR (cR (cR (cR (cB Yh)))))))))))))) (Zu.l3.s k))
theorem Zu.ok (k:Nat):Ze Yc 196 (Zu.con k):=fP (.two .auto (.two .auto (.two (.one (.sum (Zu.l0.s k))) (.two .auto (.two (.two .auto (.one (.sum (Zu.l1.s k)))) (.two .auto (.two (.two .auto (.one (.sum (Zu.l2.s k)))) (.two .auto (.two (.two .auto (.one (.sum (Zu.l3.s k)))) .auto))))))))) (Zu.cok k) Tryz.func196 (sC (Zu.l0.ok k) (sC (Zu.l1.ok k) (sC (Zu.l2.ok k) (sC (Zu.l3.ok k) sN))))
def Zej (k:Nat) (a1:Str):Option (Str):=bif decide (8000<((a1.length):Int)) then some ([]) else Ya (Zu k a1) fun v2=>some v2
def Zej.con (k:Nat):Con:=Sig.con { ps:=[.val false .str (ros .str)],rs:=[.val false [.v .str]],ntmps:=8 } (fun x=>Zej k x)
theorem Zej.ok (k:Nat):Ze Yc 150 (Zej.con k):=fA (cX (cC (Zu.ok k) cN)) Tryz.func150
def Zed.j0 (a1:Int) (a2:List Int) (a3:Int) (a4:Int) (a5:Int) (a6:Int) (a7:Int) (a8:Int) (a9:Str) (a10:Int) (a11:Int) (a12:Int) (a13:Str):Option ((List Int×Int×Int×Int×Int×Int×Int×Str×Int×Int×Int×Str)):=let e14:=(a2,(a3,(a4,a5)));bif a6==2 then Ya (Z7e e14 a1) fun v15=>Ya (Z9b v15.2.2.2.2 3) fun v16=>bif v16.1 then Ya (Zp v16.2 9) fun v17=>some (v17.2.1,v17.2.2.1,v17.2.2.2.1,v17.2.2.2.2,a6,a7,a8,a9,5,0,v17.1,[]) else some (v16.2.1,v16.2.2.1,v16.2.2.2.1,v16.2.2.2.2,a6,a7,a8,a9,v15.1,v15.2.1,v15.2.2.1,v15.2.2.2.1) else bif a6==9 then Ya (Zp e14 8) fun v18=>some (v18.2.1,v18.2.2.1,v18.2.2.2.1,v18.2.2.2.2,a6,Yb .i64 (1+v18.1),a8,a9,a10,a11,a12,a13) else bif a6==7 then Ya (Zp e14 (Yb .i64 (a1+1))) fun v19=>some (v19.2.1,v19.2.2.1,v19.2.2.2.1,v19.2.2.2.2,a6,v19.1,a8,a9,a10,a11,a12,a13) else some (a2,a3,a4,a5,a6,a7,a8,a9,a10,a11,a12,a13)
def Zed.j1 (k:Nat) (a1:List Int) (a2:Int) (a3:Int) (a4:Int) (a5:Int) (a6:Int) (a7:Int) (a8:Str) (a9:Int) (a10:Int) (a11:Int) (a12:Str):Option ((List Int×Int×Int×Int×Int×Int×Int×Str×Int×Int×Int×Str)):=Ya (Z9b (a1,(a2,(a3,a4))) 6) fun v13=>bif v13.1 then Ya (Zp v13.2 4) fun v14=>Ya (Zp v14.2 3) fun v15=>Ya (Zej k ([120]:Str)) fun v16=>some (v15.2.1,v15.2.2.1,v15.2.2.2.1,v15.2.2.2.2,1,Yb .i64 (1+v14.1),v15.1,v16,0,0,0,[]) else some (v13.2.1,v13.2.2.1,v13.2.2.2.1,v13.2.2.2.2,a5,a6,a7,a8,a9,a10,a11,a12)
def Zed (k:Nat) (a1:Z1g) (a2:Int):Option (Int×Int×Int×Str×Int×Int×Int×Str×List Int×Int×Int×Int):=Ya (Zp a1 16) fun v3=>let e4:=at? [2,2,3,4,5,5,6,6,6,7,8,9,10,11,11,11] v3.1;Ya (e4) fun v5=>Ya (e4) fun v6=>Ya (Zed.j0 a2 v3.2.1 v3.2.2.1 v3.2.2.2.1 v3.2.2.2.2 v6 0 0 [] 0 0 0 []) fun y7=>Ya (Zed.j1 k y7.1 y7.2.1 y7.2.2.1 y7.2.2.2.1 y7.2.2.2.2.1 y7.2.2.2.2.2.1 y7.2.2.2.2.2.2.1 y7.2.2.2.2.2.2.2.1 y7.2.2.2.2.2.2.2.2.1 y7.2.2.2.2.2.2.2.2.2.1 y7.2.2.2.2.2.2.2.2.2.2.1 y7.2.2.2.2.2.2.2.2.2.2.2) fun y8=>Ya (Z9b (y8.1,(y8.2.1,(y8.2.2.1,y8.2.2.2.1))) 25) fun v9=>bif v9.1 then Ya (Zp v9.2 4) fun v10=>bif v10.1==0 then Ya (Zp v10.2 13) fun v11=>some (v11.1,y8.2.2.2.2.2.1,y8.2.2.2.2.2.2.1,y8.2.2.2.2.2.2.2.1,y8.2.2.2.2.2.2.2.2.1,y8.2.2.2.2.2.2.2.2.2.1,y8.2.2.2.2.2.2.2.2.2.2.1,y8.2.2.2.2.2.2.2.2.2.2.2,v11.2.1,v11.2.2.1,v11.2.2.2.1,v11.2.2.2.2) else bif v10.1==1 then Ya (Zp v10.2 6) fun v12=>let e13:=at? [(-1),20,21,24,25,1000001] v12.1;Ya (e13) fun v14=>Ya (e13) fun v15=>some (y8.2.2.2.2.1,v15,y8.2.2.2.2.2.2.1,y8.2.2.2.2.2.2.2.1,y8.2.2.2.2.2.2.2.2.1,y8.2.2.2.2.2.2.2.2.2.1,y8.2.2.2.2.2.2.2.2.2.2.1,y8.2.2.2.2.2.2.2.2.2.2.2,v12.2.1,v12.2.2.1,v12.2.2.2.1,v12.2.2.2.2) else bif v10.1==2 then Ya (Zp v10.2 3) fun v16=>let e17:=at? [(-1),4,5] v16.1;Ya (e17) fun v18=>Ya (e17) fun v19=>some (y8.2.2.2.2.1,y8.2.2.2.2.2.1,v19,y8.2.2.2.2.2.2.2.1,y8.2.2.2.2.2.2.2.2.1,y8.2.2.2.2.2.2.2.2.2.1,y8.2.2.2.2.2.2.2.2.2.2.1,y8.2.2.2.2.2.2.2.2.2.2.2,v16.2.1,v16.2.2.1,v16.2.2.2.1,v16.2.2.2.2) else Ya (Zog k v10.2) fun v20=>some (y8.2.2.2.2.1,y8.2.2.2.2.2.1,y8.2.2.2.2.2.2.1,y8.2.2.2.2.2.2.2.1,v20.1,v20.2.1,v20.2.2.1,v20.2.2.2.1,v20.2.2.2.2.1,v20.2.2.2.2.2.1,v20.2.2.2.2.2.2.1,v20.2.2.2.2.2.2.2) else some (y8.2.2.2.2.1,y8.2.2.2.2.2.1,y8.2.2.2.2.2.2.1,y8.2.2.2.2.2.2.2.1,y8.2.2.2.2.2.2.2.2.1,y8.2.2.2.2.2.2.2.2.2.1,y8.2.2.2.2.2.2.2.2.2.2.1,y8.2.2.2.2.2.2.2.2.2.2.2,v9.2.1,v9.2.2.1,v9.2.2.2.1,v9.2.2.2.2)
def Zed.con (k:Nat):Con:=Sig.con { ps:=[.ref 107 Zgc (Zcc Zgc),.val false (.int .i64) (ros (.int .i64))],rs:=[.val true [.v (.int .i64),.v (.int .i64),.v (.int .i64),.v .str,.v (.int .i64),.v (.int .i64),.v (.int .i64),.v .str]],ntmps:=77 } (fun x=>Zed k x.1 x.2)
def Zed.cok (k:Nat):=cX (cC (Zp.ok k) (cC (Z9b.ok k) (cC (Zog.ok k) (cC (Z7e.ok k) (cC (Zej.ok k) cN)))))
def Zed.j0.s (k:Nat):Summ:=lq 77 { tmps:=[(0,.one (.ptr 0 0)),(1,.one (.v (.int .i64))),(5,.one (.ptr 3 0))],slots:=[(0,.box 107 [.v (.sl (.int .u8)),.v (.int .i64),.v (.int .u64),.v (.int .i64)]),(3,.box 124 [.v (.int .i64),.v (.int .i64),.v (.int .i64),.v .str,.v (.int .i64),.v (.int .i64),.v (.int .i64),.v .str])],nb:=4 } [(.nrm,{ tmps:=[],slots:=[(0,.box 107 [.v (.sl (.int .u8)),.v (.int .i64),.v (.int .u64),.v (.int .i64)]),(3,.box 124 [.v (.int .i64),.v (.int .i64),.v (.int .i64),.v .str,.v (.int .i64),.v (.int .i64),.v (.int .i64),.v .str])],nb:=4 })] (fun x=>Zed.j0 x.1 x.2.1 x.2.2.1 x.2.2.2.1 x.2.2.2.2.1 x.2.2.2.2.2.1 x.2.2.2.2.2.2.1 x.2.2.2.2.2.2.2.1 x.2.2.2.2.2.2.2.2.1 x.2.2.2.2.2.2.2.2.2.1 x.2.2.2.2.2.2.2.2.2.2.1 x.2.2.2.2.2.2.2.2.2.2.2.1 x.2.2.2.2.2.2.2.2.2.2.2.2)
def Zed.j0.ok (k:Nat):=(jA (Zed.cok k):Zl Yc _ (cL (cR (cR (cB Ym)))) (Zed.j0.s k))
def Zed.j1.s (k:Nat):Summ:=lq 77 { tmps:=[(0,.one (.ptr 0 0)),(5,.one (.ptr 3 0))],slots:=[(0,.box 107 [.v (.sl (.int .u8)),.v (.int .i64),.v (.int .u64),.v (.int .i64)]),(3,.box 124 [.v (.int .i64),.v (.int .i64),.v (.int .i64),.v .str,.v (.int .i64),.v (.int .i64),.v (.int .i64),.v .str])],nb:=4 } [(.nrm,{ tmps:=[],slots:=[(0,.box 107 [.v (.sl (.int .u8)),.v (.int .i64),.v (.int .u64),.v (.int .i64)]),(3,.box 124 [.v (.int .i64),.v (.int .i64),.v (.int .i64),.v .str,.v (.int .i64),.v (.int .i64),.v (.int .i64),.v .str])],nb:=4 })] (fun x=>Zed.j1 k x.1 x.2.1 x.2.2.1 x.2.2.2.1 x.2.2.2.2.1 x.2.2.2.2.2.1 x.2.2.2.2.2.2.1 x.2.2.2.2.2.2.2.1 x.2.2.2.2.2.2.2.2.1 x.2.2.2.2.2.2.2.2.2.1 x.2.2.2.2.2.2.2.2.2.2.1 x.2.2.2.2.2.2.2.2.2.2.2)
def Zed.j1.ok (k:Nat):=(jA (Zed.cok k):Zl Yc _ (cL (cR (cR (cR (cB Ym))))) (Zed.j1.s k))
theorem Zed.ok (k:Nat):Ze Yc 93 (Zed.con k):=fP (.two .auto (.two .auto (.two (.sum (Zed.j0.s k)) (.two (.sum (Zed.j1.s k)) .auto)))) (Zed.cok k) Tryz.func93 (sC (Zed.j0.ok k) (sC (Zed.j1.ok k) sN))
def Z4h (a1:G99) (a2:Int):Option (Bool):=Ya (Z9 a2 1 8) fun v3=>bif !v3 then some false else let e4:=Yb .i64 (a2-1);Ya (Z9 a1.2.1 0 e4) fun v5=>Ya (Z9 a1.2.2.1 0 e4) fun v6=>let e7:=a1.2.2.2==[];let e8:=v5&&(a1.2.2.1==0);bif a1.1==1 then some (e8&&e7) else let e9:=((a1.2.2.2.length):Int)==8;bif a1.1==2 then some (e8&&e9) else bif a1.1==3 then some ((v5&&v6)&&e7) else bif a1.1==4 then some ((v5&&v6)&&e9) else bif a1.1==5 then bif a1.2.1==0 then Ya (Z9 a1.2.2.1 0 1000000) fun v10=>some (v10&&e7) else some false else some false
def Z4h.con (k:Nat):Con:=Sig.con { ps:=[.val true T99 (ros T99),.val false (.int .i64) (ros (.int .i64))],rs:=[.val false [.v .bool]],ntmps:=87 } (fun x=>Z4h x.1 x.2)
theorem Z4h.ok (k:Nat):Ze Yc 151 (Z4h.con k):=fA (cX (cC (Z9.ok k) cN)) Tryz.func151
def Zll (a1:Zgh):Option (Bool):=Ya (Z9 a1.1 1 11) fun v2=>bif !v2 then some false else let e3:=a1.1==1;let e4:=a1.1==2;let e5:=(!e3)&&((a1.2.2.1 != 0)||(!(a1.2.2.2.1==[])));let e6:=(!e4)&&(!((a1.2.2.2.2.1==0)&&((a1.2.2.2.2.2.1==0)&&((a1.2.2.2.2.2.2.1==0)&&(a1.2.2.2.2.2.2.2==[])))));let e7:=a1.1==9;let e8:=a1.1==7;let e9:=a1.2.1==0;bif e3 then Ya (Z9 a1.2.1 1 20) fun v10=>bif !v10 then some false else Ya (Z9 a1.2.2.1 0 4) fun v11=>bif (!v11)||(((a1.2.2.2.1.length):Int) != 32) then some false else bif e5 then some false else bif e4 then Ya (Z4h a1.2.2.2.2 8) fun v12=>bif (!v12)||e6 then some false else bif e3 then some true else bif e7 then Ya (Z9 a1.2.1 1 24) fun v13=>some v13 else bif e8 then Ya (Z9 a1.2.1 0 1000000) fun v14=>some v14 else some e9 else bif e6 then some false else bif e3 then some true else bif e7 then Ya (Z9 a1.2.1 1 24) fun v15=>some v15 else bif e8 then Ya (Z9 a1.2.1 0 1000000) fun v16=>some v16 else some e9 else bif e5 then some false else bif e4 then Ya (Z4h a1.2.2.2.2 8) fun v17=>bif (!v17)||e6 then some false else bif e3 then some true else bif e7 then Ya (Z9 a1.2.1 1 24) fun v18=>some v18 else bif e8 then Ya (Z9 a1.2.1 0 1000000) fun v19=>some v19 else some e9 else bif e6 then some false else bif e3 then some true else bif e7 then Ya (Z9 a1.2.1 1 24) fun v20=>some v20 else bif e8 then Ya (Z9 a1.2.1 0 1000000) fun v21=>some v21 else some e9
def Zll.con (k:Nat):Con:=Sig.con { ps:=[.val true Z5d (ros Z5d)],rs:=[.val false [.v .bool]],ntmps:=83 } (fun x=>Zll x)
theorem Zll.ok (k:Nat):Ze Yc 94 (Zll.con k):=fA (cX (cC (Z9.ok k) (cC (Z4h.ok k) cN))) Tryz.func94
def Zoc (k:Nat) (a1:Z6u):Option (Int×Str×Int×Bool):=Ya (Z9d k a1.1 a1.2.1) fun v2=>bif a1.2.2||(v2.2.2 != 0) then some (0,a1.1,a1.2.1,true) else some (v2.1,a1.1,v2.2.1,a1.2.2)
def Zoc.con (k:Nat):Con:=Sig.con { ps:=[.ref 103 Z0k (Zcc Z0k)],rs:=[.val false [.v (.int .i64)]],ntmps:=32 } (fun x=>Zoc k x)
theorem Zoc.ok (k:Nat):Ze Yc 73 (Zoc.con k):=fA (cX (cC (Z9d.ok k) cN)) Tryz.func73
def Z6h (k:Nat) (a1:Z6u):Option (Str×Str×Int×Bool):=Ya (Zjm k a1.1 a1.2.1) fun v2=>bif a1.2.2||(v2.2.2 != 0) then some ([],a1.1,a1.2.1,true) else some (v2.1,a1.1,v2.2.1,a1.2.2)
def Z6h.con (k:Nat):Con:=Sig.con { ps:=[.ref 103 Z0k (Zcc Z0k)],rs:=[.val false [.v .str]],ntmps:=32 } (fun x=>Z6h k x)
theorem Z6h.ok (k:Nat):Ze Yc 74 (Z6h.con k):=fA (cX (cC (Zjm.ok k) cN)) Tryz.func74
def Ztd.l0:Nat→List Int→Int→Int→Option (Unit ⊕ Bool)
 | 0,_,_,_=>none
 | j+1,a1,a2,a3=>bif decide (a3<((a1.length):Int)) then Ya (at? a1 a3) fun v4=>bif v4==a2 then some (.inr true) else Ztd.l0 j a1 a2 (Yb .i64 (a3+1)) else some (.inl ())
def Ztd (k:Nat) (a1:List Int) (a2:Int):Option (Bool):=Ya (Ztd.l0 k a1 a2 0) fun
  | .inl y3=>some false
  | .inr y4=>some y4
def Ztd.con (k:Nat):Con:=Sig.con { ps:=[.val false (.sl (.int .i64)) (ros (.sl (.int .i64))),.val false (.int .i64) (ros (.int .i64))],rs:=[.val false [.v .bool]],ntmps:=18 } (fun x=>Ztd k x.1 x.2)
def Ztd.cok (k:Nat):=cX cN
def Ztd.l0.s (k:Nat):Summ:=lp 18 { tmps:=[(0,.one (.bor (.int .i64))),(1,.one (.v (.int .i64))),(5,.one (.v (.int .i64)))],slots:=[],nb:=0 } [(.exit 0,{ tmps:=[],slots:=[],nb:=0 }),(.ret,{ tmps:=[(4,.one (.v .bool))],slots:=[],nb:=0 })] (fun j x=>Ztd.l0 j x.1 x.2.1 x.2.2) k
def Ztd.l0.ok (k:Nat):=(lA (Ztd.cok k):Zl Yc _ (.loop (cO (cO (cR (cL (cR (cB Tryz.f204))))))) (Ztd.l0.s k))
theorem Ztd.ok (k:Nat):Ze Yc 204 (Ztd.con k):=fP (.two .auto (.two (.two .auto (.one (.sum (Ztd.l0.s k)))) .auto)) (Ztd.cok k) Tryz.func204 (sC (Ztd.l0.ok k) sN)
def Z6e.l0 (k:Nat):Nat→Int→Int→Int→Int→Int→Str→List Int→List Int→Int→Option (Unit ⊕ Bool)
 | 0,_,_,_,_,_,_,_,_,_=>none
 | j+1,a1,a2,a3,a4,a5,a6,a7,a8,a9=>bif decide (a9<((a8.length):Int)) then Ya (at? a8 a9) fun v10=>Ya (Ztd k a7 v10) fun v11=>bif v11 then some (.inr false) else Z6e.l0 k j a1 a2 a3 a4 a5 a6 a7 a8 (Yb .i64 (a9+1)) else some (.inl ())
def Z6e (k:Nat) (a1:G49):Option (Bool):=Ya (Z9 a1.1 1 5) fun v2=>bif !v2 then some false else Ya (Znc k a1.2.2.2.2.2.2.1) fun v3=>bif !v3 then some false else Ya (Znc k a1.2.2.2.2.2.2.2) fun v4=>bif !v4 then some false else Ya (Z6e.l0 k k a1.1 a1.2.1 a1.2.2.1 a1.2.2.2.1 a1.2.2.2.2.1 a1.2.2.2.2.2.1 a1.2.2.2.2.2.2.1 a1.2.2.2.2.2.2.2 0) fun
  | .inl y5=>let e6:=a1.2.1==0;let e7:=a1.2.2.2.2.1==0;let e8:=((a1.2.2.2.2.2.2.2.length):Int);bif a1.1==1 then some (((((e6&&(a1.2.2.1==0))&&(a1.2.2.2.1==0))&&e7)&&(a1.2.2.2.2.2.1==[]))&&(e8==0)) else Ya (Z9 a1.2.2.1 1 20) fun v9=>bif !v9 then some false else Ya (Z9 a1.2.2.2.1 0 4) fun v10=>bif ((!v10)||(e8 != (Yb .i64 (a1.2.2.1+a1.2.2.2.1))))||(((a1.2.2.2.2.2.1.length):Int) != 32) then some false else Ya (Z9 a1.2.1 0 2) fun v11=>bif v11 then Ya (Z9 a1.2.2.2.2.1 0 40) fun v12=>some ((v12&&(e6||(a1.1==4)))&&(e7||(a1.1==5))) else some false
  | .inr y13=>some y13
def Z6e.con (k:Nat):Con:=Sig.con { ps:=[.val true T49 (ros T49)],rs:=[.val false [.v .bool]],ntmps:=122 } (fun x=>Z6e k x)
def Z6e.cok (k:Nat):=cXr true false (cC (Z9.ok k) (cC (Znc.ok k) (cC (Ztd.ok k) cN)))
def Z6e.l0.s (k:Nat):Summ:=lp 122 { tmps:=[(1,.eptr [.v (.int .i64),.v (.int .i64),.v (.int .i64),.v (.int .i64),.v (.int .i64),.v .str,.bor (.int .i64),.bor (.int .i64)]),(3,.one (.v (.int .i64)))],slots:=[],nb:=0 } [(.exit 0,{ tmps:=[],slots:=[],nb:=0 }),(.ret,{ tmps:=[(2,.one (.v .bool))],slots:=[],nb:=0 })] (fun j x=>Z6e.l0 k j x.1 x.2.1 x.2.2.1 x.2.2.2.1 x.2.2.2.2.1 x.2.2.2.2.2.1 x.2.2.2.2.2.2.1 x.2.2.2.2.2.2.2.1 x.2.2.2.2.2.2.2.2) k
def Z6e.l0.ok (k:Nat):=(lA (Z6e.cok k):Zl Yc _ (.loop (cO (cO (cR (cL (cR (cR (cB Tryz.f158)))))))) (Z6e.l0.s k))
theorem Z6e.ok (k:Nat):Ze Yc 158 (Z6e.con k):=fP (.two .auto (.two .auto (.two (.two .auto (.one (.sum (Z6e.l0.s k)))) .auto))) (Z6e.cok k) Tryz.func158 (sC (Z6e.l0.ok k) sN)
def Ztk (k:Nat) (a1:G49):Option (Str):=Ya (Z6e k a1) fun v2=>bif !v2 then some ([]) else Ya (Zuk k a1) fun v3=>some v3
def Ztk.con (k:Nat):Con:=Sig.con { ps:=[.val true T49 (ros T49)],rs:=[.val false [.v .str]],ntmps:=8 } (fun x=>Ztk k x)
theorem Ztk.ok (k:Nat):Ze Yc 100 (Ztk.con k):=fA (cXr true false (cC (Zuk.ok k) (cC (Z6e.ok k) cN))) Tryz.func100
def Z1d.l0:Nat→Int→Int→List Int→Option ((List Int))
 | 0,_,_,_=>none
 | j+1,a1,a2,a3=>bif decide (a2<24) then Ya (Zbc a2) fun v4=>let e5:=Yb .i64 (a2+1);bif (intBits .and .i64 (shr .i64 a1 a2) 1)==1 then Ya (Zw 8 a3 [a2]) fun v6=>Z1d.l0 j a1 e5 v6 else Z1d.l0 j a1 e5 a3 else some a3
def Z1d (k:Nat) (a1:Int):Option (List Int):=bif (decide (a1<0))||(decide (16777216≤a1)) then some ([]) else Ya (Z1d.l0 k a1 0 []) fun y2=>some y2
def Z1d.con (k:Nat):Con:=Sig.con { ps:=[.val false (.int .i64) (ros (.int .i64))],rs:=[.val false [.own 2 (.int .i64)]],ntmps:=27 } (fun x=>Z1d k x)
def Z1d.cok (k:Nat):=cX cN
def Z1d.l0.s (k:Nat):Summ:=lp 27 { tmps:=[(0,.one (.v (.int .i64))),(3,.one (.own 1)),(4,.one (.v (.int .i64)))],slots:=[(1,.arr false 2 (.int .i64))],nb:=2 } [(.exit 0,{ tmps:=[(3,.one (.own 2))],slots:=[(2,.arr false 2 (.int .i64))],nb:=3 })] (fun j x=>Z1d.l0 j x.1 x.2.1 x.2.2) k
def Z1d.l0.ok (k:Nat):=(lA (Z1d.cok k):Zl Yc _ (.loop (cO (cO (cR (cL (cR (cR (cR (cB Tryz.f170))))))))) (Z1d.l0.s k))
theorem Z1d.ok (k:Nat):Ze Yc 170 (Z1d.con k):=fP (.two .auto (.two .auto (.two .auto (.two (.two .auto (.one (.sum (Z1d.l0.s k)))) .auto)))) (Z1d.cok k) Tryz.func170 (sC (Z1d.l0.ok k) sN)
def Z3o (k:Nat) (a1:Str):Option (Int×Int×Int×Int×Int×Str×List Int×List Int×Int):=bif decide (8000<((a1.length):Int)) then some (0,0,0,0,0,[],[],[],2) else Ya (Zoc k (a1,(0,false))) fun v2=>Ya (Zoc k v2.2) fun v3=>Ya (Zoc k v3.2) fun v4=>Ya (Zoc k v4.2) fun v5=>Ya (Zoc k v5.2) fun v6=>Ya (Zoc k v6.2) fun v7=>Ya (Z1d k v7.1) fun v8=>Ya (Zoc k v7.2) fun v9=>Ya (Z1d k v9.1) fun v10=>Ya (Z6h k v9.2) fun v11=>bif v11.2.2.2 then some (0,0,0,0,0,[],[],[],3) else Ya (Ztk k (v2.1,(v3.1,(v4.1,(v5.1,(v6.1,(v11.1,(v8,v10)))))))) fun v12=>bif !(v12==a1) then some (0,0,0,0,0,[],[],[],3) else some (v2.1,v3.1,v4.1,v5.1,v6.1,v11.1,v8,v10,0)
def Z3o.con (k:Nat):Con:=Sig.con { ps:=[.val false .str (ros .str)],rs:=[.val true [.v (.int .i64),.v (.int .i64),.v (.int .i64),.v (.int .i64),.v (.int .i64),.v .str,.own 2 (.int .i64),.own 2 (.int .i64),.v (.int .i64)]],ntmps:=51 } (fun x=>Z3o k x)
theorem Z3o.ok (k:Nat):Ze Yc 113 (Z3o.con k):=fA (cX (cC (Zoc.ok k) (cC (Z6h.ok k) (cC (Ztk.ok k) (cC (Z1d.ok k) cN))))) Tryz.func113
def Zjf (k:Nat) (a1:G29):Option (Int×Int×Int×Int×Int×Str×List Int×List Int×Bool):=Ya (Z9 a1.1 1 8) fun v2=>bif !v2 then some (0,0,0,0,0,[],[],[],false) else Ya (Z7 k a1.2) fun v3=>bif (!v3)||(((a1.2.1.length):Int) != (Yb .i64 ((Yb .i64 (3+a1.1))+24))) then some (0,0,0,0,0,[],[],[],false) else Ya (Zrl k a1.2) fun v4=>bif v4.2.2.1 != 0 then some (0,0,0,0,0,[],[],[],false) else Ya (Z3o k v4.2.1) fun v5=>some (v5.1,v5.2.1,v5.2.2.1,v5.2.2.2.1,v5.2.2.2.2.1,v5.2.2.2.2.2.1,v5.2.2.2.2.2.2.1,v5.2.2.2.2.2.2.2.1,v5.2.2.2.2.2.2.2.2==0)
def Zjf.con (k:Nat):Con:=Sig.con { ps:=[.val true T29 (ros T29)],rs:=[.val true [.v (.int .i64),.v (.int .i64),.v (.int .i64),.v (.int .i64),.v (.int .i64),.v .str,.own 2 (.int .i64),.own 2 (.int .i64)],.val false [.v .bool]],ntmps:=47 } (fun x=>Zjf k x)
theorem Zjf.ok (k:Nat):Ze Yc 58 (Zjf.con k):=fA (cXr true false (cC (Z9.ok k) (cC (Zrl.ok k) (cC (Z7.ok k) (cC (Z3o.ok k) cN))))) Tryz.func58
def Zde.l0 (k:Nat):Nat→Int→List Str→List Zx→Int→List Str→Option ((List Str))
 | 0,_,_,_,_,_=>none
 | j+1,a1,a2,a3,a4,a5=>bif decide (a4<a1) then Ya (Zub k (a2,a3) (Yb .i64 (3+a4))) fun v6=>Ya (Zw 16 a5 [v6]) fun v7=>Zde.l0 k j a1 a2 a3 (Yb .i64 (a4+1)) v7 else some a5
def Zde (k:Nat) (a1:G29):Option (List Str):=Ya (Zde.l0 k k a1.1 a1.2.1 a1.2.2 0 []) fun y2=>some y2
def Zde.con (k:Nat):Con:=Sig.con { ps:=[.val true T29 (ros T29)],rs:=[.val false [.own 9 .str]],ntmps:=21 } (fun x=>Zde k x)
def Zde.cok (k:Nat):=cXr true false (cC (Zub.ok k) cN)
def Zde.l0.s (k:Nat):Summ:=lp 21 { tmps:=[(1,.eptr [.v (.int .i64),.bor .str,.bor Zv]),(3,.one (.own 1)),(4,.one (.v (.int .i64)))],slots:=[(1,.arr false 9 .str)],nb:=2 } [(.exit 0,{ tmps:=[(3,.one (.own 2))],slots:=[(2,.arr false 9 .str)],nb:=3 })] (fun j x=>Zde.l0 k j x.1 x.2.1 x.2.2.1 x.2.2.2.1 x.2.2.2.2) k
def Zde.l0.ok (k:Nat):=(lA (Zde.cok k):Zl Yc _ (.loop (cO (cO (cR (cL (cR (cR (cB Tryz.f66)))))))) (Zde.l0.s k))
theorem Zde.ok (k:Nat):Ze Yc 66 (Zde.con k):=fP (.two .auto (.two .auto (.two (.two .auto (.one (.sum (Zde.l0.s k)))) .auto))) (Zde.cok k) Tryz.func66 (sC (Zde.l0.ok k) sN)
def Zdh (a1:G29) (a2:Int):Option (Int):=some (Yb .i64 ((Yb .i64 (3+a1.1))+a2))
def Zdh.con (k:Nat):Con:=Sig.con { ps:=[.val true T29 (ros T29),.val false (.int .i64) (ros (.int .i64))],rs:=[.val false [.v (.int .i64)]],ntmps:=10 } (fun x=>Zdh x.1 x.2)
theorem Zdh.ok (k:Nat):Ze Yc 115 (Zdh.con k):=fA (cXr true false cN) Tryz.func115
def Zmm (k:Nat) (a1:G99):Option (Str):=Ya (Zec k a1.1) fun v2=>Ya (Zec k a1.2.1) fun v3=>Ya (Z2c v2 v3) fun v4=>Ya (Zec k a1.2.2.1) fun v5=>Ya (Z2c v4 v5) fun v6=>Ya (Zgj k a1.2.2.2) fun v7=>Ya (Z2c v6 v7) fun v8=>some v8
def Zmm.con (k:Nat):Con:=Sig.con { ps:=[.val true T99 (ros T99)],rs:=[.val false [.v .str]],ntmps:=18 } (fun x=>Zmm k x)
theorem Zmm.ok (k:Nat):Ze Yc 157 (Zmm.con k):=fA (cX (cC (Zec.ok k) (cC (Zgj.ok k) cN))) Tryz.func157
def Zyi (k:Nat) (a1:Int) (a2:G99):Option (Str):=Ya (Z9 a1 0 1000000) fun v3=>bif !v3 then some ([]) else Ya (Z4h a2 8) fun v4=>bif !v4 then some ([]) else Ya (Zec k a1) fun v5=>Ya (Zmm k a2) fun v6=>Ya (Z2c v5 v6) fun v7=>Ya (Zzj k v7) fun v8=>some v8
def Zyi.con (k:Nat):Con:=Sig.con { ps:=[.val false (.int .i64) (ros (.int .i64)),.val true T99 (ros T99)],rs:=[.val false [.v .str]],ntmps:=19 } (fun x=>Zyi k x.1 x.2)
theorem Zyi.ok (k:Nat):Ze Yc 98 (Zyi.con k):=fA (cX (cC (Zzj.ok k) (cC (Z9.ok k) (cC (Zec.ok k) (cC (Z4h.ok k) (cC (Zmm.ok k) cN)))))) Tryz.func98
def Zdr (k:Nat) (a1:G99):Option (Str):=Ya (Z4h a1 8) fun v2=>bif !v2 then some ([]) else Ya (Zmm k a1) fun v3=>some v3
def Zdr.con (k:Nat):Con:=Sig.con { ps:=[.val true T99 (ros T99)],rs:=[.val false [.v .str]],ntmps:=8 } (fun x=>Zdr k x)
theorem Zdr.ok (k:Nat):Ze Yc 233 (Zdr.con k):=fA (cX (cC (Z4h.ok k) (cC (Zmm.ok k) cN))) Tryz.func233
def Zlm (k:Nat) (a1:Str):Option (Int×Int×Int×Str×Int):=bif decide (8000<((a1.length):Int)) then some (0,0,0,[],2) else Ya (Zoc k (a1,(0,false))) fun v2=>Ya (Zoc k v2.2) fun v3=>Ya (Zoc k v3.2) fun v4=>Ya (Z6h k v4.2) fun v5=>bif v5.2.2.2 then some (0,0,0,[],3) else Ya (Zdr k (v2.1,(v3.1,(v4.1,v5.1)))) fun v6=>bif !(v6==a1) then some (0,0,0,[],3) else some (v2.1,v3.1,v4.1,v5.1,0)
def Zlm.con (k:Nat):Con:=Sig.con { ps:=[.val false .str (ros .str)],rs:=[.val true [.v (.int .i64),.v (.int .i64),.v (.int .i64),.v .str,.v (.int .i64)]],ntmps:=37 } (fun x=>Zlm k x)
theorem Zlm.ok (k:Nat):Ze Yc 211 (Zlm.con k):=fA (cX (cC (Zoc.ok k) (cC (Z6h.ok k) (cC (Zdr.ok k) cN)))) Tryz.func211
def Zol (k:Nat) (a1:Str) (a2:Int):Option (Int×Int×Int×Str×Int):=Ya (Z0j k a1) fun v3=>bif v3.2.2 != 0 then some (0,0,0,[],v3.2.2) else Ya (Zoc k (v3.1,(0,false))) fun v4=>Ya (Z2b v3.1 v4.2.2.1 ((v3.1.length):Int)) fun v5=>Ya (Zlm k v5) fun v6=>bif v4.2.2.2||(v6.2.2.2.2 != 0) then some (0,0,0,[],3) else Ya (Zyi k v4.1 (v6.1,(v6.2.1,(v6.2.2.1,v6.2.2.2.1)))) fun v7=>bif !(v7==a1) then some (0,0,0,[],3) else bif v4.1 != a2 then some (0,0,0,[],6) else some (v6.1,v6.2.1,v6.2.2.1,v6.2.2.2.1,v6.2.2.2.2)
def Zol.con (k:Nat):Con:=Sig.con { ps:=[.val false .str (ros .str),.val false (.int .i64) (ros (.int .i64))],rs:=[.val true [.v (.int .i64),.v (.int .i64),.v (.int .i64),.v .str,.v (.int .i64)]],ntmps:=54 } (fun x=>Zol k x.1 x.2)
theorem Zol.ok (k:Nat):Ze Yc 171 (Zol.con k):=fA (cX (cC (Z0j.ok k) (cC (Zoc.ok k) (cC (Zyi.ok k) (cC (Zlm.ok k) cN))))) Tryz.func171
def Zgg.l0 (k:Nat):Nat→List Str→Int→List G99→Option ((List G99))
 | 0,_,_,_=>none
 | j+1,a1,a2,a3=>bif decide (a2<((a1.length):Int)) then Ya (at? a1 a2) fun v4=>Ya (Zol k v4 a2) fun v5=>bif v5.2.2.2.2 != 0 then some a3 else Ya (Zw 40 a3 [(v5.1,(v5.2.1,(v5.2.2.1,v5.2.2.2.1)))]) fun v6=>Zgg.l0 k j a1 (Yb .i64 (a2+1)) v6 else some a3
def Zgg (k:Nat) (a1:List Str):Option (List G99):=Ya (Zgg.l0 k k a1 0 []) fun y2=>some y2
def Zgg.con (k:Nat):Con:=Sig.con { ps:=[.val false (.sl .str) (ros (.sl .str))],rs:=[.val false [.own 99 T99]],ntmps:=28 } (fun x=>Zgg k x)
def Zgg.cok (k:Nat):=cX (cC (Zol.ok k) cN)
def Zgg.l0.s (k:Nat):Summ:=lp 28 { tmps:=[(0,.one (.bor .str)),(3,.one (.own 1)),(4,.one (.v (.int .i64)))],slots:=[(1,.arr false 99 T99)],nb:=2 } [(.exit 0,{ tmps:=[(3,.one (.own 2))],slots:=[(2,.arr false 99 T99)],nb:=3 })] (fun j x=>Zgg.l0 k j x.1 x.2.1 x.2.2) k
def Zgg.l0.ok (k:Nat):=(lA (Zgg.cok k):Zl Yc _ (.loop (cO (cO (cR (cL (cR (cR (cB Tryz.f116)))))))) (Zgg.l0.s k))
theorem Zgg.ok (k:Nat):Ze Yc 116 (Zgg.con k):=fP (.two .auto (.two .auto (.two (.two .auto (.one (.sum (Zgg.l0.s k)))) .auto))) (Zgg.cok k) Tryz.func116 (sC (Zgg.l0.ok k) sN)
def Ztc.l0 (k:Nat):Nat→Int→List Str→List Zx→Int→Int→Int→Int→Int→Str→List Int→List Int→Int→List Str→Option ((List Str))
 | 0,_,_,_,_,_,_,_,_,_,_,_,_,_=>none
 | j+1,a1,a2,a3,a4,a5,a6,a7,a8,a9,a10,a11,a12,a13=>bif decide (a12<((a11.length):Int)) then Ya (at? a11 a12) fun v14=>Ya (Zdh (a1,(a2,a3)) v14) fun v15=>Ya (Zub k (a2,a3) v15) fun v16=>Ya (Zw 16 a13 [v16]) fun v17=>Ztc.l0 k j a1 a2 a3 a4 a5 a6 a7 a8 a9 a10 a11 (Yb .i64 (a12+1)) v17 else some a13
def Ztc (k:Nat) (a1:G29) (a2:G49):Option (List G99):=Ya (Ztc.l0 k k a1.1 a1.2.1 a1.2.2 a2.1 a2.2.1 a2.2.2.1 a2.2.2.2.1 a2.2.2.2.2.1 a2.2.2.2.2.2.1 a2.2.2.2.2.2.2.1 a2.2.2.2.2.2.2.2 a2.2.2.2.1 []) fun y3=>Ya (Zgg k y3) fun v4=>some v4
def Ztc.con (k:Nat):Con:=Sig.con { ps:=[.val true T29 (ros T29),.val true T49 (ros T49)],rs:=[.val false [.own 99 T99]],ntmps:=32 } (fun x=>Ztc k x.1 x.2)
def Ztc.cok (k:Nat):=cXr true false (cC (Zub.ok k) (cC (Zdh.ok k) (cC (Zgg.ok k) cN)))
def Ztc.l0.s (k:Nat):Summ:=lp 32 { tmps:=[(2,.eptr [.v (.int .i64),.bor .str,.bor Zv]),(3,.eptr [.v (.int .i64),.v (.int .i64),.v (.int .i64),.v (.int .i64),.v (.int .i64),.v .str,.bor (.int .i64),.bor (.int .i64)]),(5,.one (.own 1)),(6,.one (.v (.int .i64)))],slots:=[(1,.arr false 9 .str)],nb:=2 } [(.exit 0,{ tmps:=[(5,.one (.own 2))],slots:=[(2,.arr false 9 .str)],nb:=3 })] (fun j x=>Ztc.l0 k j x.1 x.2.1 x.2.2.1 x.2.2.2.1 x.2.2.2.2.1 x.2.2.2.2.2.1 x.2.2.2.2.2.2.1 x.2.2.2.2.2.2.2.1 x.2.2.2.2.2.2.2.2.1 x.2.2.2.2.2.2.2.2.2.1 x.2.2.2.2.2.2.2.2.2.2.1 x.2.2.2.2.2.2.2.2.2.2.2.1 x.2.2.2.2.2.2.2.2.2.2.2.2) k
def Ztc.l0.ok (k:Nat):=(lA (Ztc.cok k):Zl Yc _ (.loop (cO (cO (cR (cL (cR (cR (cB Tryz.f59)))))))) (Ztc.l0.s k))
theorem Ztc.ok (k:Nat):Ze Yc 59 (Ztc.con k):=fP (.two .auto (.two .auto (.two (.two .auto (.one (.sum (Ztc.l0.s k)))) .auto))) (Ztc.cok k) Tryz.func59 (sC (Ztc.l0.ok k) sN)
def Zy.l0:Nat→List G99→Int→Int→Option (Unit ⊕ Int)
 | 0,_,_,_=>none
 | j+1,a1,a2,a3=>bif decide (a3<((a1.length):Int)) then Ya (at? a1 a3) fun v4=>Ya (Z4h v4 a2) fun v5=>bif !v5 then some (.inr 1) else Zy.l0 j a1 a2 (Yb .i64 (a3+1)) else some (.inl ())
def Zy.l1:Nat→List G99→Int→Int→Option (Unit ⊕ Int)
 | 0,_,_,_=>none
 | j+1,a1,a2,a3=>bif decide (a3<a2) then Ya (at? a1 a2) fun v4=>let e5:=Yb .i64 (a3+1);bif v4.1 != 5 then Ya (at? a1 a3) fun v6=>bif v6.1 != 5 then Ya (at? a1 a2) fun v7=>Ya (at? a1 a3) fun v8=>bif v7.2.1==v8.2.1 then some (.inr 12) else Zy.l1 j a1 a2 e5 else Zy.l1 j a1 a2 e5 else Zy.l1 j a1 a2 e5 else some (.inl ())
def Zy.l2 (k:Nat):Nat→List G99→Int→Option (Unit ⊕ Int)
 | 0,_,_=>none
 | j+1,a1,a2=>bif decide (a2<((a1.length):Int)) then Ya (Zy.l1 k a1 a2 0) fun
    | .inl y3=>Zy.l2 k j a1 (Yb .i64 (a2+1))
    | .inr y4=>some (.inr y4) else some (.inl ())
def Zy.l3:Nat→List G99→Int→Int→Option (Unit ⊕ Int)
 | 0,_,_,_=>none
 | j+1,a1,a2,a3=>bif decide (a3<((a1.length):Int)) then Ya (at? a1 a3) fun v4=>let e5:=Yb .i64 (a3+1);bif v4.1 != 5 then Zy.l3 j a1 a2 e5 else Ya (at? a1 a3) fun v6=>bif decide (v6.2.2.1≤a2) then some (.inr 8) else Ya (at? a1 a3) fun v7=>Zy.l3 j a1 v7.2.2.1 e5 else some (.inl ())
def Zy (k:Nat) (a1:List G99) (a2:Int):Option (Int):=bif decide (20<((a1.length):Int)) then some 1 else Ya (Z9 a2 1 8) fun v3=>bif !v3 then some 1 else Ya (Zy.l0 k a1 a2 0) fun
  | .inl y4=>Ya (Zy.l2 k k a1 0) fun
    | .inl y5=>Ya (Zy.l3 k a1 (-1) 0) fun
      | .inl y6=>some 0
      | .inr y7=>some y7
    | .inr y8=>some y8
  | .inr y9=>some y9
def Zy.con (k:Nat):Con:=Sig.con { ps:=[.val false (.sl T99) (ros (.sl T99)),.val false (.int .i64) (ros (.int .i64))],rs:=[.val false [.v (.int .i64)]],ntmps:=93 } (fun x=>Zy k x.1 x.2)
def Zy.cok (k:Nat):=cX (cC (Z9.ok k) (cC (Z4h.ok k) cN))
def Zy.l0.s (k:Nat):Summ:=lp 93 { tmps:=[(0,.one (.bor T99)),(1,.one (.v (.int .i64))),(5,.one (.v (.int .i64)))],slots:=[],nb:=0 } [(.exit 0,{ tmps:=[],slots:=[],nb:=0 }),(.ret,{ tmps:=[(4,.one (.v (.int .i64)))],slots:=[],nb:=0 })] (fun j x=>Zy.l0 j x.1 x.2.1 x.2.2) k
def Zy.l0.ok (k:Nat):=(lA (Zy.cok k):Zl Yc _ (.loop (cO (cO (cR (cL (cR (cR (cB Yg)))))))) (Zy.l0.s k))
def Zy.l1.s (k:Nat):Summ:=lp 93 { tmps:=[(0,.one (.bor T99)),(6,.one (.v (.int .i64))),(7,.one (.v (.int .i64)))],slots:=[],nb:=0 } [(.exit 4,{ tmps:=[],slots:=[],nb:=0 }),(.ret,{ tmps:=[(4,.one (.v (.int .i64)))],slots:=[],nb:=0 })] (fun j x=>Zy.l1 j x.1 x.2.1 x.2.2) k
def Zy.l1.ok (k:Nat):=(lA (Zy.cok k):Zl Yc _ (.loop (cO (cO (cR (cO (cL (cR (cO (cO (cR (cL (cR (cR (cR (cB Yg))))))))))))))) (Zy.l1.s k))
def Zy.l2.s (k:Nat):Summ:=lp 93 { tmps:=[(0,.one (.bor T99)),(6,.one (.v (.int .i64)))],slots:=[],nb:=0 } [(.exit 2,{ tmps:=[],slots:=[],nb:=0 }),(.ret,{ tmps:=[(4,.one (.v (.int .i64)))],slots:=[],nb:=0 })] (fun j x=>Zy.l2 k j x.1 x.2) k
def Zy.l2.ok (k:Nat):=(lP (.two .auto (.two (.one (.two .auto (.one (.sum (Zy.l1.s k))))) .auto)) (Zy.cok k) (sC (Zy.l1.ok k) sN):Zl Yc _ (.loop (cO (cO (cR (cL (cR (cR (cR (cB Yg))))))))) (Zy.l2.s k))
def Zy.l3.s (k:Nat):Summ:=lp 93 { tmps:=[(0,.one (.bor T99)),(8,.one (.v (.int .i64))),(9,.one (.v (.int .i64)))],slots:=[],nb:=0 } [(.exit 6,{ tmps:=[],slots:=[],nb:=0 }),(.ret,{ tmps:=[(4,.one (.v (.int .i64)))],slots:=[],nb:=0 })] (fun j x=>Zy.l3 j x.1 x.2.1 x.2.2) k
def Zy.l3.ok (k:Nat):=(lA (Zy.cok k):Zl Yc _ (.loop (cO (cO (cR (cL (cR (cR (cR (cR (cR (cB Yg))))))))))) (Zy.l3.s k))
theorem Zy.ok (k:Nat):Ze Yc 184 (Zy.con k):=fP (.two .auto (.two .auto (.two (.two .auto (.one (.sum (Zy.l0.s k)))) (.two (.two .auto (.one (.sum (Zy.l2.s k)))) (.two .auto (.two (.two .auto (.one (.sum (Zy.l3.s k)))) .auto)))))) (Zy.cok k) Tryz.func184 (sC (Zy.l0.ok k) (sC (Zy.l2.ok k) (sC (Zy.l3.ok k) sN)))
def Zsd.l0:Nat→List G99→Int→List G99→Option ((List G99))
 | 0,_,_,_=>none
 | j+1,a1,a2,a3=>bif (decide (a2<((a1.length):Int)))&&(decide (((a1.length):Int)≤20)) then Ya (at? a1 a2) fun v4=>let e5:=Yb .i64 (a2+1);bif v4.1 != 5 then Ya (at? a1 a2) fun v6=>Ya (Zw 40 a3 [v6]) fun v7=>Zsd.l0 j a1 e5 v7 else Zsd.l0 j a1 e5 a3 else some a3
def Zsd (k:Nat) (a1:List G99):Option (List G99):=Ya (Zsd.l0 k a1 0 []) fun y2=>some y2
def Zsd.con (k:Nat):Con:=Sig.con { ps:=[.val false (.sl T99) (ros (.sl T99))],rs:=[.val false [.own 99 T99]],ntmps:=31 } (fun x=>Zsd k x)
def Zsd.cok (k:Nat):=cX cN
def Zsd.l0.s (k:Nat):Summ:=lp 31 { tmps:=[(0,.one (.bor T99)),(3,.one (.own 1)),(4,.one (.v (.int .i64)))],slots:=[(1,.arr false 99 T99)],nb:=2 } [(.exit 0,{ tmps:=[(3,.one (.own 2))],slots:=[(2,.arr false 99 T99)],nb:=3 })] (fun j x=>Zsd.l0 j x.1 x.2.1 x.2.2) k
def Zsd.l0.ok (k:Nat):=(lA (Zsd.cok k):Zl Yc _ (.loop (cO (cO (cR (cL (cR (cR (cB Tryz.f214)))))))) (Zsd.l0.s k))
theorem Zsd.ok (k:Nat):Ze Yc 214 (Zsd.con k):=fP (.two .auto (.two .auto (.two (.two .auto (.one (.sum (Zsd.l0.s k)))) .auto))) (Zsd.cok k) Tryz.func214 (sC (Zsd.l0.ok k) sN)
def Zus (a1:G99) (a2:Int):Option (Bool):=some (((a1.1==3)||(a1.1==4))&&(a1.2.2.1==a2))
def Zus.con (k:Nat):Con:=Sig.con { ps:=[.val true T99 (ros T99),.val false (.int .i64) (ros (.int .i64))],rs:=[.val false [.v .bool]],ntmps:=19 } (fun x=>Zus x.1 x.2)
theorem Zus.ok (k:Nat):Ze Yc 242 (Zus.con k):=fA (cX cN) Tryz.func242
def Znd.l0:Nat→List G99→List Bool→Int→Int→Option (Unit ⊕ Bool)
 | 0,_,_,_,_=>none
 | j+1,a1,a2,a3,a4=>bif decide (a4<((a1.length):Int)) then let e5:=Yb .i64 (a4+1);bif a4 != a3 then Ya (at? a2 a4) fun v6=>bif v6 then Ya (at? a1 a4) fun v7=>Ya (at? a1 a3) fun v8=>Ya (Zus v7 v8.2.1) fun v9=>bif v9 then some (.inr true) else Znd.l0 j a1 a2 a3 e5 else Znd.l0 j a1 a2 a3 e5 else Znd.l0 j a1 a2 a3 e5 else some (.inl ())
def Znd (k:Nat) (a1:List G99) (a2:List Bool) (a3:List Bool) (a4:Int):Option (Bool):=Ya (at? a1 a4) fun v5=>Ya (at? a3 v5.2.1) fun v6=>bif v6 then some false else Ya (Znd.l0 k a1 a2 a4 0) fun
  | .inl y7=>some false
  | .inr y8=>some y8
def Znd.con (k:Nat):Con:=Sig.con { ps:=[.val false (.sl T99) (ros (.sl T99)),.val false (.sl .bool) (ros (.sl .bool)),.val false (.sl .bool) (ros (.sl .bool)),.val false (.int .i64) (ros (.int .i64))],rs:=[.val false [.v .bool]],ntmps:=45 } (fun x=>Znd k x.1 x.2.1 x.2.2.1 x.2.2.2)
def Znd.cok (k:Nat):=cX (cC (Zus.ok k) cN)
def Znd.l0.s (k:Nat):Summ:=lp 45 { tmps:=[(0,.one (.bor T99)),(1,.one (.bor .bool)),(3,.one (.v (.int .i64))),(9,.one (.v (.int .i64)))],slots:=[],nb:=0 } [(.exit 0,{ tmps:=[],slots:=[],nb:=0 }),(.ret,{ tmps:=[(8,.one (.v .bool))],slots:=[],nb:=0 })] (fun j x=>Znd.l0 j x.1 x.2.1 x.2.2.1 x.2.2.2) k
def Znd.l0.ok (k:Nat):=(lA (Znd.cok k):Zl Yc _ (.loop (cO (cO (cR (cL (cR (cR (cB Tryz.f234)))))))) (Znd.l0.s k))
theorem Znd.ok (k:Nat):Ze Yc 234 (Znd.con k):=fP (.two .auto (.two .auto (.two (.two .auto (.one (.sum (Znd.l0.s k)))) .auto))) (Znd.cok k) Tryz.func234 (sC (Znd.l0.ok k) sN)
def Zbe.l0 (k:Nat):Nat→List G99→List Bool→List Bool→Int→Int→Int→Option ((Int×Int))
 | 0,_,_,_,_,_,_=>none
 | j+1,a1,a2,a3,a4,a5,a6=>bif decide (a6<((a1.length):Int)) then Ya (at? a2 a6) fun v7=>let e8:=Yb .i64 (a6+1);bif !v7 then Zbe.l0 k j a1 a2 a3 a4 a5 e8 else bif decide (a5<0) then bif decide (a4<0) then Ya (Znd k a1 a2 a3 a6) fun v9=>bif !v9 then Zbe.l0 k j a1 a2 a3 a6 a6 e8 else Zbe.l0 k j a1 a2 a3 a4 a6 e8 else Zbe.l0 k j a1 a2 a3 a4 a6 e8 else bif decide (a4<0) then Ya (Znd k a1 a2 a3 a6) fun v10=>bif !v10 then Zbe.l0 k j a1 a2 a3 a6 a5 e8 else Zbe.l0 k j a1 a2 a3 a4 a5 e8 else Zbe.l0 k j a1 a2 a3 a4 a5 e8 else some (a4,a5)
def Zbe (k:Nat) (a1:List G99) (a2:List Bool) (a3:List Bool):Option (Int×Int):=Ya (Zbe.l0 k k a1 a2 a3 (-1) (-1) 0) fun y4=>some (y4.1,y4.2)
def Zbe.con (k:Nat):Con:=Sig.con { ps:=[.val false (.sl T99) (ros (.sl T99)),.val false (.sl .bool) (ros (.sl .bool)),.val false (.sl .bool) (ros (.sl .bool))],rs:=[.val false [.v (.int .i64)],.val false [.v (.int .i64)]],ntmps:=38 } (fun x=>Zbe k x.1 x.2.1 x.2.2)
def Zbe.cok (k:Nat):=cX (cC (Znd.ok k) cN)
def Zbe.l0.s (k:Nat):Summ:=lp 38 { tmps:=[(0,.one (.bor T99)),(1,.one (.bor .bool)),(2,.one (.bor .bool)),(8,.one (.v (.int .i64))),(9,.one (.v (.int .i64))),(10,.one (.v (.int .i64)))],slots:=[],nb:=0 } [(.exit 0,{ tmps:=[(8,.one (.v (.int .i64))),(9,.one (.v (.int .i64)))],slots:=[],nb:=0 })] (fun j x=>Zbe.l0 k j x.1 x.2.1 x.2.2.1 x.2.2.2.1 x.2.2.2.2.1 x.2.2.2.2.2) k
def Zbe.l0.ok (k:Nat):=(lA (Zbe.cok k):Zl Yc _ (.loop (cO (cO (cR (cL (cR (cR (cB Tryz.f215)))))))) (Zbe.l0.s k))
theorem Zbe.ok (k:Nat):Ze Yc 215 (Zbe.con k):=fP (.two .auto (.two .auto (.two (.two .auto (.one (.sum (Zbe.l0.s k)))) .auto))) (Zbe.cok k) Tryz.func215 (sC (Zbe.l0.ok k) sN)
def Zzb.l0:Nat→Int→List G99→List Bool→Option ((List G99×List Bool))
 | 0,_,_,_=>none
 | j+1,a1,a2,a3=>bif decide (a1<((a2.length):Int)) then Ya (at? a3 a1) fun v4=>Ya (at? a3 a1) fun v5=>Zzb.l0 j (Yb .i64 (a1+1)) a2 (Ye a3 (Yd a1) true) else some (a2,a3)
def Zzb.l1 (k:Nat):Nat→Int→List G99→List Bool→List Bool→List Zge→Option ((List Zge))
 | 0,_,_,_,_,_=>none
 | j+1,a1,a2,a3,a4,a5=>Ya (Zbe k a2 a3 a4) fun v6=>bif decide (v6.2<0) then some a5 else bif decide (0≤v6.1) then let e7:=at? a2 v6.1;Ya (e7) fun v8=>Ya (e7) fun v9=>Ya (Zw 32 a5 [(2,(v6.1,(v9.2.1,0)))]) fun v10=>let e11:=at? a3 v6.1;Ya (e11) fun v12=>Ya (e11) fun v13=>Zzb.l1 k j a1 a2 (Ye a3 (Yd v6.1) false) a4 v10 else let e14:=at? a2 v6.2;Ya (e14) fun v15=>Ya (e14) fun v16=>Ya (Zw 32 a5 [(1,(v6.2,(v16.2.1,a1)))]) fun v17=>Ya (e14) fun v18=>Ya (e14) fun v19=>let e20:=at? a4 v19.2.1;Ya (e20) fun v21=>Ya (e20) fun v22=>Zzb.l1 k j (Yb .i64 (a1+1)) a2 a3 (Ye a4 (Yd v19.2.1) true) v17
def Zzb (k:Nat) (a1:List G99):Option (List Zge):=Ya (Zsd k a1) fun v2=>Ya (Z9g 1 ((v2.length):Int) ((v2.length):Int) false) fun v3=>Ya (Zzb.l0 k 0 v2 v3) fun y4=>Ya (Z9g 1 8 8 false) fun v5=>Ya (Zzb.l1 k k 0 y4.1 y4.2 v5 []) fun y6=>some y6
def Zzb.con (k:Nat):Con:=Sig.con { ps:=[.val false (.sl T99) (ros (.sl T99))],rs:=[.val false [.own 150 Zlc]],ntmps:=74 } (fun x=>Zzb k x)
def Zzb.cok (k:Nat):=cX (cC (Zsd.ok k) (cC (Zbe.ok k) cN))
def Zzb.l0.s (k:Nat):Summ:=lp 74 { tmps:=[(3,.one (.own 2)),(4,.one (.own 3)),(5,.one (.v (.int .i64)))],slots:=[(2,.arr false 99 T99),(3,.arr false 4 .bool)],nb:=4 } [(.exit 0,{ tmps:=[(3,.one (.own 4)),(4,.one (.own 5))],slots:=[(4,.arr false 99 T99),(5,.arr false 4 .bool)],nb:=6 })] (fun j x=>Zzb.l0 j x.1 x.2.1 x.2.2) k
def Zzb.l0.ok (k:Nat):=(lA (Zzb.cok k):Zl Yc _ (.loop (cO (cO (cR (cL (cR (cR (cR (cB Yl))))))))) (Zzb.l0.s k))
def Zzb.l1.s (k:Nat):Summ:=lp 74 { tmps:=[(3,.one (.own 8)),(4,.one (.own 9)),(6,.one (.own 10)),(7,.one (.own 11)),(8,.one (.v (.int .i64)))],slots:=[(8,.arr false 99 T99),(9,.arr false 4 .bool),(10,.arr false 4 .bool),(11,.arr false 150 Zlc)],nb:=12 } [(.ret,{ tmps:=[(2,.one (.own 12))],slots:=[(12,.arr false 150 Zlc)],nb:=13 })] (fun j x=>Zzb.l1 k j x.1 x.2.1 x.2.2.1 x.2.2.2.1 x.2.2.2.2) k
def Zzb.l1.ok (k:Nat):=(lA (Zzb.cok k):Zl Yc _ (.loop (cO (cO (cR (cR (cR (cR (cR (cR (cR (cB Yl))))))))))) (Zzb.l1.s k))
theorem Zzb.ok (k:Nat):Ze Yc 185 (Zzb.con k):=fP (.two .auto (.two .auto (.two .auto (.two (.two .auto (.one (.sum (Zzb.l0.s k)))) (.two .auto (.two .auto (.two .auto (.one (.sum (Zzb.l1.s k)))))))))) (Zzb.cok k) Tryz.func185 (sC (Zzb.l0.ok k) (sC (Zzb.l1.ok k) sN))
def Z3h (k:Nat) (a1:List G99) (a2:Int):Option (List Zge×Int):=bif decide (400<((a1.length):Int)) then some ([],2) else Ya (Zy k a1 a2) fun v3=>bif v3 != 0 then some ([],v3) else Ya (Zzb k a1) fun v4=>some (v4,0)
def Z3h.con (k:Nat):Con:=Sig.con { ps:=[.val false (.sl T99) (ros (.sl T99)),.val false (.int .i64) (ros (.int .i64))],rs:=[.val true [.own 150 Zlc,.v (.int .i64)]],ntmps:=20 } (fun x=>Z3h k x.1 x.2)
theorem Z3h.ok (k:Nat):Ze Yc 129 (Z3h.con k):=fA (cX (cC (Zy.ok k) (cC (Zzb.ok k) cN))) Tryz.func129
def Zne.l0:Nat→List Zge→Int→Int→Option (Int)
 | 0,_,_,_=>none
 | j+1,a1,a2,a3=>bif (decide (a3<((a1.length):Int)))&&(decide (((a1.length):Int)≤40)) then Ya (at? a1 a3) fun v4=>let e5:=Yb .i64 (a3+1);bif v4.1==1 then Zne.l0 j a1 (Yb .i64 (a2+1)) e5 else Zne.l0 j a1 a2 e5 else some a2
def Zne (k:Nat) (a1:List Zge):Option (Int):=Ya (Zne.l0 k a1 0 0) fun y2=>some y2
def Zne.con (k:Nat):Con:=Sig.con { ps:=[.val false (.sl Zlc) (ros (.sl Zlc))],rs:=[.val false [.v (.int .i64)]],ntmps:=25 } (fun x=>Zne k x)
def Zne.cok (k:Nat):=cX cN
def Zne.l0.s (k:Nat):Summ:=lp 25 { tmps:=[(0,.one (.bor Zlc)),(3,.one (.v (.int .i64))),(4,.one (.v (.int .i64)))],slots:=[],nb:=0 } [(.exit 0,{ tmps:=[(3,.one (.v (.int .i64)))],slots:=[],nb:=0 })] (fun j x=>Zne.l0 j x.1 x.2.1 x.2.2) k
def Zne.l0.ok (k:Nat):=(lA (Zne.cok k):Zl Yc _ (.loop (cO (cO (cR (cL (cR (cR (cB Tryz.f130)))))))) (Zne.l0.s k))
theorem Zne.ok (k:Nat):Ze Yc 130 (Zne.con k):=fP (.two .auto (.two .auto (.two (.two .auto (.one (.sum (Zne.l0.s k)))) .auto))) (Zne.cok k) Tryz.func130 (sC (Zne.l0.ok k) sN)
def Zvs (k:Nat) (a1:G29) (a2:G49):Option (Bool):=bif decide (a2.1≤2) then some true else Ya (Ztc k a1 a2) fun v3=>Ya (Z3h k v3 a1.1) fun v4=>bif v4.2==0 then Ya (Zne k v4.1) fun v5=>bif decide (v5≤a2.2.2.2.1) then some (decide (a2.2.2.2.2.1≤((v4.1.length):Int))) else some false else some false
def Zvs.con (k:Nat):Con:=Sig.con { ps:=[.val true T29 (ros T29),.val true T49 (ros T49)],rs:=[.val false [.v .bool]],ntmps:=34 } (fun x=>Zvs k x.1 x.2)
theorem Zvs.ok (k:Nat):Ze Yc 75 (Zvs.con k):=fA (cXr true false (cC (Ztc.ok k) (cC (Z3h.ok k) (cC (Zne.ok k) cN)))) Tryz.func75
def Zyj (k:Nat) (a1:G29):Option (Bool):=Ya (Zjf k a1) fun v2=>bif v2.2.2.2.2.2.2.2.2 then Ya (Zde k a1) fun v3=>Ya (Zvc k v3) fun v4=>bif v4 then Ya (Zvs k a1 (v2.1,(v2.2.1,(v2.2.2.1,(v2.2.2.2.1,(v2.2.2.2.2.1,(v2.2.2.2.2.2.1,(v2.2.2.2.2.2.2.1,v2.2.2.2.2.2.2.2.1)))))))) fun v5=>some v5 else some false else some false
def Zyj.con (k:Nat):Con:=Sig.con { ps:=[.val true T29 (ros T29)],rs:=[.val false [.v .bool]],ntmps:=21 } (fun x=>Zyj k x)
theorem Zyj.ok (k:Nat):Ze Yc 30 (Zyj.con k):=fA (cXr true false (cC (Zvc.ok k) (cC (Zjf.ok k) (cC (Zde.ok k) (cC (Zvs.ok k) cN))))) Tryz.func30
def Z7h (k:Nat) (a1:G29) (a2:Zgh):Option (Int):=Ya (Zyj k a1) fun v3=>bif !v3 then some 1 else Ya (Zll a2) fun v4=>bif !v4 then some 1 else Ya (Zrl k a1.2) fun v5=>bif decide (1000000≤v5.1) then some 9 else some 0
def Z7h.con (k:Nat):Con:=Sig.con { ps:=[.val true T29 (ros T29),.val true Z5d (ros Z5d)],rs:=[.val false [.v (.int .i64)]],ntmps:=24 } (fun x=>Z7h k x.1 x.2)
theorem Z7h.ok (k:Nat):Ze Yc 153 (Z7h.con k):=fA (cXr true false (cC (Zyj.ok k) (cC (Zrl.ok k) (cC (Zll.ok k) cN)))) Tryz.func153
def Zyg (a1:Int):Option (List G60×Str×List Int×Int):=some ([],[],[],a1)
def Zyg.con (k:Nat):Con:=Sig.con { ps:=[.val false (.int .i64) (ros (.int .i64))],rs:=[.val true [.own 60 T60,.v .str,.own 2 (.int .i64),.v (.int .i64)]],ntmps:=5 } (fun x=>Zyg x)
theorem Zyg.ok (k:Nat):Ze Yc 197 (Zyg.con k):=fA (cX cN) Tryz.func197
def Znl (k:Nat) (a1:Str) (a2:Int):Option (Bool×Int×Str):=Ya (Z0j k a1) fun v3=>Ya (Zoc k (v3.1,(0,false))) fun v4=>Ya (Zoc k v4.2) fun v5=>Ya (Z6h k v5.2) fun v6=>bif v6.2.2.2||(a1==[]) then some (true,0,[]) else Ya (Z2h k v4.1 v5.1 v6.1) fun v7=>bif (!(v7==a1))||(v4.1 != a2) then some (true,0,[]) else some (false,v5.1,v6.1)
def Znl.con (k:Nat):Con:=Sig.con { ps:=[.val false .str (ros .str),.val false (.int .i64) (ros (.int .i64))],rs:=[.val true [.v .bool,.v (.int .i64),.v .str]],ntmps:=46 } (fun x=>Znl k x.1 x.2)
theorem Znl.ok (k:Nat):Ze Yc 26 (Znl.con k):=fA (cX (cC (Z2h.ok k) (cC (Z0j.ok k) (cC (Zoc.ok k) (cC (Z6h.ok k) cN))))) Tryz.func26
def Z2j (a1:G49):Option (Int×Int×Int×Int×Int×Str×List Int×List Int):=Ya (Zw 8 [] a1.2.2.2.2.2.2.1) fun v2=>Ya (Zw 8 [] a1.2.2.2.2.2.2.2) fun v3=>some (a1.1,a1.2.1,a1.2.2.1,a1.2.2.2.1,a1.2.2.2.2.1,a1.2.2.2.2.2.1,v2,v3)
def Z2j.con (k:Nat):Con:=Sig.con { ps:=[.val true T49 (ros T49)],rs:=[.val true [.v (.int .i64),.v (.int .i64),.v (.int .i64),.v (.int .i64),.v (.int .i64),.v .str,.own 2 (.int .i64),.own 2 (.int .i64)]],ntmps:=14 } (fun x=>Z2j x)
theorem Z2j.ok (k:Nat):Ze Yc 200 (Z2j.con k):=fA (cX cN) Tryz.func200
def Zme.l0:Nat→List G99→Int→Int→Option (Int)
 | 0,_,_,_=>none
 | j+1,a1,a2,a3=>bif (decide (a3<((a1.length):Int)))&&(decide (((a1.length):Int)≤20)) then Ya (at? a1 a3) fun v4=>let e5:=Yb .i64 (a3+1);bif v4.1==5 then Zme.l0 j a1 e5 e5 else Zme.l0 j a1 a2 e5 else some a2
def Zme (k:Nat) (a1:List G99):Option (Int):=Ya (Zme.l0 k a1 0 0) fun y2=>some y2
def Zme.con (k:Nat):Con:=Sig.con { ps:=[.val false (.sl T99) (ros (.sl T99))],rs:=[.val false [.v (.int .i64)]],ntmps:=25 } (fun x=>Zme k x)
def Zme.cok (k:Nat):=cX cN
def Zme.l0.s (k:Nat):Summ:=lp 25 { tmps:=[(0,.one (.bor T99)),(3,.one (.v (.int .i64))),(4,.one (.v (.int .i64)))],slots:=[],nb:=0 } [(.exit 0,{ tmps:=[(3,.one (.v (.int .i64)))],slots:=[],nb:=0 })] (fun j x=>Zme.l0 j x.1 x.2.1 x.2.2) k
def Zme.l0.ok (k:Nat):=(lA (Zme.cok k):Zl Yc _ (.loop (cO (cO (cR (cL (cR (cR (cB Tryz.f60)))))))) (Zme.l0.s k))
theorem Zme.ok (k:Nat):Ze Yc 60 (Zme.con k):=fP (.two .auto (.two .auto (.two (.two .auto (.one (.sum (Zme.l0.s k)))) .auto))) (Zme.cok k) Tryz.func60 (sC (Zme.l0.ok k) sN)
def Z1f.l0 (k:Nat):Nat→Int→List Str→List Zx→Int→Int→Int→Int→Int→Str→List Int→List Int→Int→List G60→Option ((List G60))
 | 0,_,_,_,_,_,_,_,_,_,_,_,_,_=>none
 | j+1,a1,a2,a3,a4,a5,a6,a7,a8,a9,a10,a11,a12,a13=>bif decide (a12<((a11.length):Int)) then Ya (at? a11 a12) fun v14=>Ya (Zdh (a1,(a2,a3)) v14) fun v15=>Ya (Zub k (a2,a3) v15) fun v16=>let e17:=Yb .i64 (a12+1);bif !(v16==[]) then Ya (Zw 32 a13 ([(false,(v15,[]))])) fun v18=>Z1f.l0 k j a1 a2 a3 a4 a5 a6 a7 a8 a9 a10 a11 e17 v18 else Z1f.l0 k j a1 a2 a3 a4 a5 a6 a7 a8 a9 a10 a11 e17 a13 else some a13
def Z1f (k:Nat) (a1:G29) (a2:G49):Option (List G60):=Ya (Ztc k a1 a2) fun v3=>Ya (Zme k v3) fun v4=>Ya (Z1f.l0 k k a1.1 a1.2.1 a1.2.2 a2.1 a2.2.1 a2.2.2.1 a2.2.2.2.1 a2.2.2.2.2.1 a2.2.2.2.2.2.1 a2.2.2.2.2.2.2.1 a2.2.2.2.2.2.2.2 (Yb .i64 (a2.2.2.2.1+v4)) []) fun y5=>bif decide (0<((y5.length):Int)) then Ya (Zw 32 y5 ([(true,(0,[]))])) fun v6=>some v6 else some y5
def Z1f.con (k:Nat):Con:=Sig.con { ps:=[.val true T29 (ros T29),.val true T49 (ros T49)],rs:=[.val false [.own 60 T60]],ntmps:=50 } (fun x=>Z1f k x.1 x.2)
def Z1f.cok (k:Nat):=cXr true false (cC (Ztc.ok k) (cC (Zme.ok k) (cC (Zub.ok k) (cC (Zdh.ok k) cN))))
def Z1f.l0.s (k:Nat):Summ:=lp 50 { tmps:=[(2,.eptr [.v (.int .i64),.bor .str,.bor Zv]),(3,.eptr [.v (.int .i64),.v (.int .i64),.v (.int .i64),.v (.int .i64),.v (.int .i64),.v .str,.bor (.int .i64),.bor (.int .i64)]),(5,.one (.own 2)),(7,.one (.v (.int .i64)))],slots:=[(2,.arr false 60 T60)],nb:=3 } [(.exit 0,{ tmps:=[(5,.one (.own 3))],slots:=[(3,.arr false 60 T60)],nb:=4 })] (fun j x=>Z1f.l0 k j x.1 x.2.1 x.2.2.1 x.2.2.2.1 x.2.2.2.2.1 x.2.2.2.2.2.1 x.2.2.2.2.2.2.1 x.2.2.2.2.2.2.2.1 x.2.2.2.2.2.2.2.2.1 x.2.2.2.2.2.2.2.2.2.1 x.2.2.2.2.2.2.2.2.2.2.1 x.2.2.2.2.2.2.2.2.2.2.2.1 x.2.2.2.2.2.2.2.2.2.2.2.2) k
def Z1f.l0.ok (k:Nat):=(lA (Z1f.cok k):Zl Yc _ (.loop (cO (cO (cR (cL (cR (cR (cR (cB Tryz.f201))))))))) (Z1f.l0.s k))
theorem Z1f.ok (k:Nat):Ze Yc 201 (Z1f.con k):=fP (.two .auto (.two .auto (.two .auto (.two (.two .auto (.one (.sum (Z1f.l0.s k)))) .auto)))) (Z1f.cok k) Tryz.func201 (sC (Z1f.l0.ok k) sN)
def Zlf (k:Nat) (a1:G29) (a2:G49):Option (List G60):=Ya (Zuk k a2) fun v3=>Ya (Zzn k a1.2 v3) fun v4=>some v4
def Zlf.con (k:Nat):Con:=Sig.con { ps:=[.val true T29 (ros T29),.val true T49 (ros T49)],rs:=[.val false [.own 60 T60]],ntmps:=10 } (fun x=>Zlf k x.1 x.2)
theorem Zlf.ok (k:Nat):Ze Yc 202 (Zlf.con k):=fA (cXr true false (cC (Zzn.ok k) (cC (Zuk.ok k) cN))) Tryz.func202
def Z3j (a1:G49):Option (Int×Int×Int×Int×Int×Str×List Int×List Int):=Ya (Zw 8 [] a1.2.2.2.2.2.2.1) fun v2=>some (1,0,0,0,0,[],v2,[])
def Z3j.con (k:Nat):Con:=Sig.con { ps:=[.val true T49 (ros T49)],rs:=[.val true [.v (.int .i64),.v (.int .i64),.v (.int .i64),.v (.int .i64),.v (.int .i64),.v .str,.own 2 (.int .i64),.own 2 (.int .i64)]],ntmps:=8 } (fun x=>Z3j x)
theorem Z3j.ok (k:Nat):Ze Yc 203 (Z3j.con k):=fA (cXr true false cN) Tryz.func203
def Zij (k:Nat) (a1:G29) (a2:G49):Option (List G60):=Ya (Z2j a2) fun v3=>bif a2.1==2 then Ya (Z1f k a1 a2) fun v4=>some v4 else bif a2.1==3 then Ya (Zlf k a1 (4,(2,v3.2.2))) fun v5=>some v5 else bif a2.1==4 then bif a2.2.1==0 then Ya (Z3j a2) fun v6=>Ya (Zlf k a1 v6) fun v7=>some v7 else Ya (Zlf k a1 (v3.1,((Yb .i64 (a2.2.1-1)),v3.2.2))) fun v8=>some v8 else bif a2.1==5 then Ya (Zub k a1.2 2) fun v9=>Ya (Znl k v9 a2.2.2.2.2.1) fun v10=>bif (v10.1||(decide (40≤a2.2.2.2.2.1)))||(decide (((a1.2.1.length):Int)≤v10.2.1)) then some ([]) else Ya (Zlf k a1 (v3.1,(v3.2.1,(v3.2.2.1,(v3.2.2.2.1,((Yb .i64 (a2.2.2.2.2.1+1)),v3.2.2.2.2.2)))))) fun v11=>Ya (Zw 32 ([v10,(true,(0,[]))]) v11) fun v12=>some v12 else some ([])
def Zij.con (k:Nat):Con:=Sig.con { ps:=[.val true T29 (ros T29),.val true T49 (ros T49)],rs:=[.val false [.own 60 T60]],ntmps:=76 } (fun x=>Zij k x.1 x.2)
theorem Zij.ok (k:Nat):Ze Yc 156 (Zij.con k):=fA (cXr true false (cC (Znl.ok k) (cC (Zub.ok k) (cC (Z2j.ok k) (cC (Z1f.ok k) (cC (Zlf.ok k) (cC (Z3j.ok k) cN))))))) Tryz.func156
def Z1e.l0 (k:Nat):Nat→List Int→List Int→Int→List Int→Option ((List Int))
 | 0,_,_,_,_=>none
 | j+1,a1,a2,a3,a4=>bif decide (a3<24) then Ya (Ztd k a1 a3) fun v5=>let e6:=Yb .i64 (a3+1);bif !v5 then Ya (Ztd k a2 a3) fun v7=>bif !v7 then Ya (Zw 8 a4 [a3]) fun v8=>Z1e.l0 k j a1 a2 e6 v8 else Z1e.l0 k j a1 a2 e6 a4 else Z1e.l0 k j a1 a2 e6 a4 else some a4
def Z1e (k:Nat) (a1:List Int) (a2:List Int):Option (List Int):=Ya (Z1e.l0 k k a1 a2 0 []) fun y3=>some y3
def Z1e.con (k:Nat):Con:=Sig.con { ps:=[.val false (.sl (.int .i64)) (ros (.sl (.int .i64))),.val false (.sl (.int .i64)) (ros (.sl (.int .i64)))],rs:=[.val false [.own 2 (.int .i64)]],ntmps:=27 } (fun x=>Z1e k x.1 x.2)
def Z1e.cok (k:Nat):=cX (cC (Ztd.ok k) cN)
def Z1e.l0.s (k:Nat):Summ:=lp 27 { tmps:=[(0,.one (.bor (.int .i64))),(1,.one (.bor (.int .i64))),(5,.one (.own 1)),(6,.one (.v (.int .i64)))],slots:=[(1,.arr false 2 (.int .i64))],nb:=2 } [(.exit 0,{ tmps:=[(5,.one (.own 2))],slots:=[(2,.arr false 2 (.int .i64))],nb:=3 })] (fun j x=>Z1e.l0 k j x.1 x.2.1 x.2.2.1 x.2.2.2) k
def Z1e.l0.ok (k:Nat):=(lA (Z1e.cok k):Zl Yc _ (.loop (cO (cO (cR (cL (cR (cR (cB Tryz.f229)))))))) (Z1e.l0.s k))
theorem Z1e.ok (k:Nat):Ze Yc 229 (Z1e.con k):=fP (.two .auto (.two .auto (.two (.two .auto (.one (.sum (Z1e.l0.s k)))) .auto))) (Z1e.cok k) Tryz.func229 (sC (Z1e.l0.ok k) sN)
def Zif.l0:Nat→List Int→Int→List Zdp→Option ((List Zdp))
 | 0,_,_,_=>none
 | j+1,a1,a2,a3=>bif decide (a2<((a1.length):Int)) then let e4:=Yb .i64 (a2+1);bif decide (0<a2) then Ya (at? a1 (Yb .i64 (a2-1))) fun v5=>Ya (at? a1 a2) fun v6=>bif (Yb .i64 (v5+1))==v6 then let e7:=Yb .i64 (((a3.length):Int)-1);let e8:=at? a3 e7;Ya (e8) fun v9=>Ya (e8) fun v10=>Ya (e8) fun v11=>Ya (e8) fun v12=>Zif.l0 j a1 e4 (Ye a3 (Yd e7) (v12.1,(Yb .i64 (v10.2+1)))) else Ya (at? a1 a2) fun v13=>Ya (Zw 16 a3 [(v13,1)]) fun v14=>Zif.l0 j a1 e4 v14 else Ya (at? a1 a2) fun v15=>Ya (Zw 16 a3 [(v15,1)]) fun v16=>Zif.l0 j a1 e4 v16 else some a3
def Zif (k:Nat) (a1:List Int):Option (List Zdp):=Ya (Zif.l0 k a1 0 []) fun y2=>some y2
def Zif.con (k:Nat):Con:=Sig.con { ps:=[.val false (.sl (.int .i64)) (ros (.sl (.int .i64)))],rs:=[.val false [.own 247 Z1k]],ntmps:=50 } (fun x=>Zif k x)
def Zif.cok (k:Nat):=cX cN
def Zif.l0.s (k:Nat):Summ:=lp 50 { tmps:=[(0,.one (.bor (.int .i64))),(3,.one (.own 1)),(4,.one (.v (.int .i64)))],slots:=[(1,.arr false 247 Z1k)],nb:=2 } [(.exit 0,{ tmps:=[(3,.one (.own 2))],slots:=[(2,.arr false 247 Z1k)],nb:=3 })] (fun j x=>Zif.l0 j x.1 x.2.1 x.2.2) k
def Zif.l0.ok (k:Nat):=(lA (Zif.cok k):Zl Yc _ (.loop (cO (cO (cR (cL (cR (cR (cB Tryz.f230)))))))) (Zif.l0.s k))
theorem Zif.ok (k:Nat):Ze Yc 230 (Zif.con k):=fP (.two .auto (.two .auto (.two (.two .auto (.one (.sum (Zif.l0.s k)))) .auto))) (Zif.cok k) Tryz.func230 (sC (Zif.l0.ok k) sN)
def Zmc.l0:Nat→List Zdp→Int→Int→List Int→Option ((List Int))
 | 0,_,_,_,_=>none
 | j+1,a1,a2,a3,a4=>Ya (at? a1 a2) fun v5=>Ya (at? a1 a2) fun v6=>bif decide (a3<(Yb .i64 (v5.1+v6.2))) then Ya (at? a4 a3) fun v7=>Ya (at? a4 a3) fun v8=>Ya (at? a4 a3) fun v9=>Ya (at? a4 a3) fun v10=>Zmc.l0 j a1 a2 (Yb .i64 (a3+1)) (Ye a4 (Yd a3) (Yb .i64 (v8+1))) else some a4
def Zmc.l1 (k:Nat):Nat→List Zdp→Int→Int→List Int→List Int→Option ((Int×List Int×List Int) ⊕ (Int×List Int))
 | 0,_,_,_,_,_=>none
 | j+1,a1,a2,a3,a4,a5=>bif decide (a2<((a1.length):Int)) then Ya (at? a1 a2) fun v6=>bif decide (v6.2<1) then some (.inr (1,[])) else Ya (at? a1 a2) fun v7=>bif decide (24<v7.2) then some (.inr (1,[])) else Ya (at? a1 a2) fun v8=>bif decide (v8.1<0) then some (.inr (1,[])) else Ya (at? a1 a2) fun v9=>Ya (at? a1 a2) fun v10=>bif decide ((Yb .i64 (24-v10.2))<v9.1) then some (.inr (1,[])) else Ya (at? a1 a2) fun v11=>Ya (Zmc.l0 k a1 a2 v11.1 a4) fun y12=>Zmc.l1 k j a1 (Yb .i64 (a2+1)) a3 y12 a5 else some (.inl (a3,a4,a5))
def Zmc.l2:Nat→Int→Int→List Int→List Int→List Int→Option ((Int×List Int×List Int) ⊕ (Int×List Int))
 | 0,_,_,_,_,_=>none
 | j+1,a1,a2,a3,a4,a5=>bif decide (a1<24) then Ya (at? a3 a1) fun v6=>Ya (at? a3 a1) fun v7=>bif decide (1<v7) then some (.inr (12,[])) else Ya (at? a3 a1) fun v8=>Ya (at? a3 a1) fun v9=>let e10:=Yb .i64 (a1+1);bif v9==1 then Ya (Zw 8 a4 [a1]) fun v11=>Zmc.l2 j e10 a2 a3 v11 a5 else Zmc.l2 j e10 a2 a3 a4 a5 else some (.inl (a2,a4,a5))
def Zmc (k:Nat) (a1:List Zdp):Option (List Int×Int):=bif decide (400<((a1.length):Int)) then some ([],2) else Ya (Z9g 8 24 24 0) fun v2=>Ya (Zmc.l1 k k a1 0 0 v2 []) fun
  | .inl y3=>Ya (Zmc.l2 k 0 y3.1 y3.2.1 [] y3.2.2) fun
    | .inl y4=>some (y4.2.1,0)
    | .inr y5=>some (y5.2,y5.1)
  | .inr y6=>some (y6.2,y6.1)
def Zmc.con (k:Nat):Con:=Sig.con { ps:=[.val false (.sl Z1k) (ros (.sl Z1k))],rs:=[.val true [.own 2 (.int .i64),.v (.int .i64)]],ntmps:=106 } (fun x=>Zmc k x)
def Zmc.cok (k:Nat):=cX cN
def Zmc.l0.s (k:Nat):Summ:=lp 106 { tmps:=[(0,.one (.bor Z1k)),(3,.one (.own 4)),(4,.one (.v (.int .i64))),(5,.one (.v (.int .i64)))],slots:=[(4,.arr false 2 (.int .i64))],nb:=5 } [(.exit 2,{ tmps:=[(3,.one (.own 5))],slots:=[(5,.arr false 2 (.int .i64))],nb:=6 })] (fun j x=>Zmc.l0 j x.1 x.2.1 x.2.2.1 x.2.2.2) k
def Zmc.l0.ok (k:Nat):=(lA (Zmc.cok k):Zl Yc _ (.loop (cO (cO (cR (cR (cO (cL (cR (cO (cO (cR (cL (cR (cR (cR (cB Yj)))))))))))))))) (Zmc.l0.s k))
def Zmc.l1.s (k:Nat):Summ:=lp 106 { tmps:=[(0,.one (.bor Z1k)),(2,.one (.ptr 0 0)),(3,.one (.own 2)),(4,.one (.v (.int .i64)))],slots:=[(0,.box 189 [.own 3,.v (.int .i64)]),(2,.arr false 2 (.int .i64)),(3,.arr false 2 (.int .i64))],nb:=4 } [(.exit 0,{ tmps:=[(3,.one (.own 4))],slots:=[(0,.box 189 [.own 5,.v (.int .i64)]),(4,.arr false 2 (.int .i64)),(5,.arr false 2 (.int .i64))],nb:=6 }),(.ret,{ tmps:=[],slots:=[(0,.box 189 [.own 4,.v (.int .i64)]),(4,.arr false 2 (.int .i64))],nb:=5 })] (fun j x=>Zmc.l1 k j x.1 x.2.1 x.2.2.1 x.2.2.2.1 x.2.2.2.2) k
def Zmc.l1.ok (k:Nat):=(lP (.two .auto (.two (.one (.two .auto (.two .auto (.one (.sum (Zmc.l0.s k)))))) .auto)) (Zmc.cok k) (sC (Zmc.l0.ok k) sN):Zl Yc _ (.loop (cO (cO (cR (cL (cR (cR (cR (cB Yj))))))))) (Zmc.l1.s k))
def Zmc.l2.s (k:Nat):Summ:=lp 106 { tmps:=[(2,.one (.ptr 0 0)),(3,.one (.own 7)),(6,.one (.own 8)),(7,.one (.v (.int .i64)))],slots:=[(0,.box 189 [.own 9,.v (.int .i64)]),(7,.arr false 2 (.int .i64)),(8,.arr false 2 (.int .i64)),(9,.arr false 2 (.int .i64))],nb:=10 } [(.exit 4,{ tmps:=[(6,.one (.own 10))],slots:=[(0,.box 189 [.own 11,.v (.int .i64)]),(10,.arr false 2 (.int .i64)),(11,.arr false 2 (.int .i64))],nb:=12 }),(.ret,{ tmps:=[],slots:=[(0,.box 189 [.own 10,.v (.int .i64)]),(10,.arr false 2 (.int .i64))],nb:=11 })] (fun j x=>Zmc.l2 j x.1 x.2.1 x.2.2.1 x.2.2.2.1 x.2.2.2.2) k
def Zmc.l2.ok (k:Nat):=(lA (Zmc.cok k):Zl Yc _ (.loop (cO (cO (cR (cL (cR (cR (cR (cR (cR (cB Yj))))))))))) (Zmc.l2.s k))
theorem Zmc.ok (k:Nat):Ze Yc 231 (Zmc.con k):=fP (.two .auto (.two .auto (.two .auto (.two (.two .auto (.one (.sum (Zmc.l1.s k)))) (.two .auto (.two (.two .auto (.one (.sum (Zmc.l2.s k)))) .auto)))))) (Zmc.cok k) Tryz.func231 (sC (Zmc.l1.ok k) (sC (Zmc.l2.ok k) sN))
def Zhr (a1:Int) (a2:Int):Option (Int):=bif decide (a2<a1) then some a1 else some a2
def Zhr.con (k:Nat):Con:=Sig.con { ps:=[.val false (.int .i64) (ros (.int .i64)),.val false (.int .i64) (ros (.int .i64))],rs:=[.val false [.v (.int .i64)]],ntmps:=10 } (fun x=>Zhr x.1 x.2)
theorem Zhr.ok (k:Nat):Ze Yc 232 (Zhr.con k):=fA (cX cN) Tryz.func232
def Zbd.l0 (k:Nat):Nat→Int→Int→Int→List Zdp→List Int→Option ((Int×List Int) ⊕ (Int×List Int))
 | 0,_,_,_,_,_=>none
 | j+1,a1,a2,a3,a4,a5=>bif decide (a2<((a4.length):Int)) then Ya (at? a4 a2) fun v6=>Ya (at? a4 a2) fun v7=>bif decide (a1≤v7.2) then Ya (at? a4 a2) fun v8=>Ya (at? a4 a2) fun v9=>Ya (Zhr 1 a1) fun v10=>Ya (Zmc k [(v9.1,v10)]) fun v11=>Ya (Z2b v11.1 0 a1) fun v12=>some (.inr (0,v12)) else Zbd.l0 k j a1 (Yb .i64 (a2+1)) a3 a4 a5 else some (.inl (a3,a5))
def Zbd (k:Nat) (a1:List Int) (a2:List Int) (a3:Int):Option (List Int×Int):=Ya (Z1e k a1 a2) fun v4=>bif decide (((v4.length):Int)<a3) then some ([],11) else Ya (Zif k v4) fun v5=>Ya (Zbd.l0 k k a3 0 0 v5 []) fun
  | .inl y6=>Ya (Z2b v4 0 a3) fun v7=>some (v7,0)
  | .inr y8=>some (y8.2,y8.1)
def Zbd.con (k:Nat):Con:=Sig.con { ps:=[.val false (.sl (.int .i64)) (ros (.sl (.int .i64))),.val false (.sl (.int .i64)) (ros (.sl (.int .i64))),.val false (.int .i64) (ros (.int .i64))],rs:=[.val true [.own 2 (.int .i64),.v (.int .i64)]],ntmps:=51 } (fun x=>Zbd k x.1 x.2.1 x.2.2)
def Zbd.cok (k:Nat):=cXr false true (cC (Z1e.ok k) (cC (Zif.ok k) (cC (Zmc.ok k) (cC (Zhr.ok k) cN))))
def Zbd.l0.s (k:Nat):Summ:=lp 51 { tmps:=[(2,.one (.v (.int .i64))),(6,.one (.ptr 0 0)),(8,.one (.own 3)),(9,.one (.v (.int .i64)))],slots:=[(0,.box 189 [.own 4,.v (.int .i64)]),(3,.arr false 247 Z1k),(4,.arr false 2 (.int .i64))],nb:=5 } [(.exit 0,{ tmps:=[],slots:=[(0,.box 189 [.own 5,.v (.int .i64)]),(5,.arr false 2 (.int .i64))],nb:=6 }),(.ret,{ tmps:=[],slots:=[(0,.box 189 [.own 5,.v (.int .i64)]),(5,.arr false 2 (.int .i64))],nb:=6 })] (fun j x=>Zbd.l0 k j x.1 x.2.1 x.2.2.1 x.2.2.2.1 x.2.2.2.2) k
def Zbd.l0.ok (k:Nat):=(lA (Zbd.cok k):Zl Yc _ (.loop (cO (cO (cR (cL (cR (cR (cR (cR (cB Tryz.f205)))))))))) (Zbd.l0.s k))
theorem Zbd.ok (k:Nat):Ze Yc 205 (Zbd.con k):=fP (.two .auto (.two .auto (.two .auto (.two .auto (.two (.two .auto (.one (.sum (Zbd.l0.s k)))) .auto))))) (Zbd.cok k) Tryz.func205 (sC (Zbd.l0.ok k) sN)
end Go.Proofs.Qz
