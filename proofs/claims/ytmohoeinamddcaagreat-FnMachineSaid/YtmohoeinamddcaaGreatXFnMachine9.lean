/- What the law FnMachine needs, part 10 of 16: the Lean functions of the Go functions that it reaches, with the proofs that the calls come to what they say, and plain facts about them. Conditions: those that each theorem states. Written by a session and by its programs (after the kit's printer). -/
import Derived.Laws.BitsLemmas
import Derived.Test.YtmohoeinamddcaaGreatXFnMachine5
import Derived.Test.YtmohoeinamddcaaGreatXFnMachine8
open Option renaming bind → Ya, bind_some → Yd
open Go.Proofs.Tryz renaming prog → Yb, f212 → Yaa, func212 → Yba, func176 → Yya
open Go.IntKind renaming wrap → Yc, bits → Yr, signed → Yx
open Int renaming toNat_natCast → Ye, toNat → Yk, tmod → Y2, tmod_eq_emod_of_nonneg → Y3, tdiv_eq_ediv_of_nonneg → Yea
open BitVec renaming ofInt → Yf, ofInt_natCast → Yh, toNat_ofNat → Yi, toNat_and → Yca
open Nat renaming mod_eq_of_lt → Yg, le_refl → Yj, not_lt_zero → Ym, zero_add → Yn, mul_one → Yp, pow_succ → Yq, mul_comm → Yv, xor_assoc → Y1, add_assoc → Y6, lt_or_ge → Y7, mul_le_mul_right → Y8, xor_comm → Y9, add_comm → Yoa, and_one_is_mod → Ypa, div_lt_of_lt_mul → Yqa, min_eq_left → Yra, mul_assoc → Ysa, pow_le_pow_right → Yta, pow_zero → Yua, sub_self → Yva, xor_lt_two_pow → Ywa, xor_zero → Yxa
open List renaming replicate → Yl, drop_eq_getElem_cons → Yo, getElem?_eq_getElem → Ys, length_append → Yt, set → Yu, append_assoc → Yy, length_cons → Yz, mem_singleton → Y0, drop_eq_nil_of_le → Y4, drop_length → Y5, drop_drop → Yfa, drop_zero → Yga, getElem_mem → Yha, length → Yia, length_drop → Yja, nodup_nil → Yka, take_add_one → Yla, take_append_drop → Yma, take_length → Yna
open Bool renaming and_false → Yw, eq_iff_iff → Yda
namespace Go.Proofs.Qz
open Go Go.RowKit
set_option linter.unusedVariables false
set_option linter.defProp false
def Zuf.l0:Nat→Int→List G99→Int→Int→Option (Int)
 | 0,_,_,_,_=>none
 | j+1,a1,a2,a3,a4=>bif decide (a4<a3) then Ya (at? a2 a4) fun v5=>let e6:=Yc .i64 (a4+1);bif v5.1==5 then Zuf.l0 j e6 a2 a3 e6 else Zuf.l0 j a1 a2 a3 e6 else some a1
def Zuf (k:Nat) (a1:List G99):Option (Int):=Ya (Zuf.l0 k 0 a1 ((a1.length):Int) 0) fun y2=>some y2
def Zuf.con (k:Nat):Con:=Sig.con { ps:=[.val false (.sl T99) (ros (.sl T99))],rs:=[.val false [.v (.int .i64)]],ntmps:=20 } (fun x=>Zuf k x)
def Zuf.cok (k:Nat):=cX cN
def Zuf.l0.s (k:Nat):Summ:=lp 20 { tmps:=[(3,.one (.v (.int .i64))),(6,.one (.bor T99)),(7,.one (.v (.int .i64))),(8,.one (.v (.int .i64)))],slots:=[],nb:=0 } [(.exit 0,{ tmps:=[(3,.one (.v (.int .i64)))],slots:=[],nb:=0 })] (fun j x=>Zuf.l0 j x.1 x.2.1 x.2.2.1 x.2.2.2) k
def Zuf.l0.ok (k:Nat):=(lA (Zuf.cok k):Zl Yb _ (.loop (cO (cO (cR (cL (cR (cR (cB Tryz.f57)))))))) (Zuf.l0.s k))
theorem Zuf.ok (k:Nat):Ze Yb 57 (Zuf.con k):=fP (.two .auto (.two .auto (.two (.two .auto (.one (.sum (Zuf.l0.s k)))) .auto))) (Zuf.cok k) Tryz.func57 (sC (Zuf.l0.ok k) sN)
def Zho (k:Nat) (a1:G29):Option (List G99×Int):=Ya (Zag k a1) fun v2=>bif !v2.2.2.2.2.2.2.2.2 then some ([],0) else Ya (Zpe k a1 (v2.1,(v2.2.1,(v2.2.2.1,(v2.2.2.2.1,(v2.2.2.2.2.1,(v2.2.2.2.2.2.1,(v2.2.2.2.2.2.2.1,v2.2.2.2.2.2.2.2.1)))))))) fun v3=>Ya (Zuf k v3) fun v4=>some (v3,v4)
def Zho.con (k:Nat):Con:=Sig.con { ps:=[.val true T29 (ros T29)],rs:=[.val true [.own 99 T99,.v (.int .i64)]],ntmps:=21 } (fun x=>Zho k x)
theorem Zho.ok (k:Nat):Ze Yb 12 (Zho.con k):=fA (cXr true false (cC (Zag.ok k) (cC (Zpe.ok k) (cC (Zuf.ok k) cN)))) Tryz.func12
def Z0o (k:Nat) (a1:G29):Option (List G99×Int):=Ya (Zjf k a1) fun v2=>bif !v2.2.2.2.2.2.2.2.2 then some ([],0) else Ya (Ztc k a1 (v2.1,(v2.2.1,(v2.2.2.1,(v2.2.2.2.1,(v2.2.2.2.2.1,(v2.2.2.2.2.2.1,(v2.2.2.2.2.2.2.1,v2.2.2.2.2.2.2.2.1)))))))) fun v3=>Ya (Zme k v3) fun v4=>some (v3,v4)
def Z0o.con (k:Nat):Con:=Sig.con { ps:=[.val true T29 (ros T29)],rs:=[.val true [.own 99 T99,.v (.int .i64)]],ntmps:=21 } (fun x=>Z0o k x)
theorem Z0o.ok (k:Nat):Ze Yb 13 (Z0o.con k):=fA (cXr true false (cC (Zjf.ok k) (cC (Ztc.ok k) (cC (Zme.ok k) cN)))) Tryz.func13
def Z0d.l0:Nat→List Str→List Str→Int→Option (Unit ⊕ Bool)
 | 0,_,_,_=>none
 | j+1,a1,a2,a3=>bif decide (a3<((a1.length):Int)) then Ya (at? a1 a3) fun v4=>Ya (at? a2 a3) fun v5=>bif !(v4==v5) then some (.inr false) else Z0d.l0 j a1 a2 (Yc .i64 (a3+1)) else some (.inl ())
def Z0d (k:Nat) (a1:List Str) (a2:List Str):Option (Bool):=bif ((a1.length):Int) != ((a2.length):Int) then some false else Ya (Z0d.l0 k a1 a2 0) fun
  | .inl y3=>some true
  | .inr y4=>some y4
def Z0d.con (k:Nat):Con:=Sig.con { ps:=[.val false (.sl .str) (ros (.sl .str)),.val false (.sl .str) (ros (.sl .str))],rs:=[.val false [.v .bool]],ntmps:=26 } (fun x=>Z0d k x.1 x.2)
def Z0d.cok (k:Nat):=cX cN
def Z0d.l0.s (k:Nat):Summ:=lp 26 { tmps:=[(0,.one (.bor .str)),(1,.one (.bor .str)),(5,.one (.v (.int .i64)))],slots:=[],nb:=0 } [(.exit 0,{ tmps:=[],slots:=[],nb:=0 }),(.ret,{ tmps:=[(4,.one (.v .bool))],slots:=[],nb:=0 })] (fun j x=>Z0d.l0 j x.1 x.2.1 x.2.2) k
def Z0d.l0.ok (k:Nat):=(lA (Z0d.cok k):Zl Yb _ (.loop (cO (cO (cR (cL (cR (cR (cB Tryz.f32)))))))) (Z0d.l0.s k))
theorem Z0d.ok (k:Nat):Ze Yb 32 (Z0d.con k):=fP (.two .auto (.two .auto (.two (.two .auto (.one (.sum (Z0d.l0.s k)))) .auto))) (Z0d.cok k) Tryz.func32 (sC (Z0d.l0.ok k) sN)
def Zmg.l0:Nat→List Str→List Zx→List Str→List Zx→Int→Option (Unit ⊕ Bool)
 | 0,_,_,_,_,_=>none
 | j+1,a1,a2,a3,a4,a5=>bif decide (a5<((a2.length):Int)) then Ya (at? a2 a5) fun v6=>Ya (at? a4 a5) fun v7=>bif !((v6.1==v7.1)&&(v6.2==v7.2)) then some (.inr false) else Zmg.l0 j a1 a2 a3 a4 (Yc .i64 (a5+1)) else some (.inl ())
def Zmg (k:Nat) (a1:G27) (a2:G27):Option (Bool):=Ya (Z0d k a1.1 a2.1) fun v3=>bif (!v3)||(((a1.2.length):Int) != ((a2.2.length):Int)) then some false else Ya (Zmg.l0 k a1.1 a1.2 a2.1 a2.2 0) fun
  | .inl y4=>some true
  | .inr y5=>some y5
def Zmg.con (k:Nat):Con:=Sig.con { ps:=[.val true T27 (ros T27),.val true T27 (ros T27)],rs:=[.val false [.v .bool]],ntmps:=39 } (fun x=>Zmg k x.1 x.2)
def Zmg.cok (k:Nat):=cXr true false (cC (Z0d.ok k) cN)
def Zmg.l0.s (k:Nat):Summ:=lp 39 { tmps:=[(2,.eptr [.bor .str,.bor Zv]),(3,.eptr [.bor .str,.bor Zv]),(5,.one (.v (.int .i64)))],slots:=[],nb:=0 } [(.exit 0,{ tmps:=[],slots:=[],nb:=0 }),(.ret,{ tmps:=[(4,.one (.v .bool))],slots:=[],nb:=0 })] (fun j x=>Zmg.l0 j x.1 x.2.1 x.2.2.1 x.2.2.2.1 x.2.2.2.2) k
def Zmg.l0.ok (k:Nat):=(lA (Zmg.cok k):Zl Yb _ (.loop (cO (cO (cR (cL (cR (cR (cB Tryz.f61)))))))) (Zmg.l0.s k))
theorem Zmg.ok (k:Nat):Ze Yb 61 (Zmg.con k):=fP (.two .auto (.two .auto (.two (.two .auto (.one (.sum (Zmg.l0.s k)))) .auto))) (Zmg.cok k) Tryz.func61 (sC (Zmg.l0.ok k) sN)
def Zkq (k:Nat) (a1:G29) (a2:G29):Option (Bool):=bif a1.1==a2.1 then Ya (Zmg k a1.2 a2.2) fun v3=>some v3 else some false
def Zkq.con (k:Nat):Con:=Sig.con { ps:=[.val true T29 (ros T29),.val true T29 (ros T29)],rs:=[.val false [.v .bool]],ntmps:=17 } (fun x=>Zkq k x.1 x.2)
theorem Zkq.ok (k:Nat):Ze Yb 14 (Zkq.con k):=fA (cXr true false (cC (Zmg.ok k) cN)) Tryz.func14
def Zxf.l0:Nat→List Int→List Int→Int→Option (Unit ⊕ Bool)
 | 0,_,_,_=>none
 | j+1,a1,a2,a3=>bif decide (a3<((a1.length):Int)) then Ya (at? a1 a3) fun v4=>Ya (at? a2 a3) fun v5=>bif v4 != v5 then some (.inr false) else Zxf.l0 j a1 a2 (Yc .i64 (a3+1)) else some (.inl ())
def Zxf (k:Nat) (a1:List Int) (a2:List Int):Option (Bool):=bif ((a1.length):Int) != ((a2.length):Int) then some false else Ya (Zxf.l0 k a1 a2 0) fun
  | .inl y3=>some true
  | .inr y4=>some y4
def Zxf.con (k:Nat):Con:=Sig.con { ps:=[.val false (.sl (.int .i64)) (ros (.sl (.int .i64))),.val false (.sl (.int .i64)) (ros (.sl (.int .i64)))],rs:=[.val false [.v .bool]],ntmps:=26 } (fun x=>Zxf k x.1 x.2)
def Zxf.cok (k:Nat):=cX cN
def Zxf.l0.s (k:Nat):Summ:=lp 26 { tmps:=[(0,.one (.bor (.int .i64))),(1,.one (.bor (.int .i64))),(5,.one (.v (.int .i64)))],slots:=[],nb:=0 } [(.exit 0,{ tmps:=[],slots:=[],nb:=0 }),(.ret,{ tmps:=[(4,.one (.v .bool))],slots:=[],nb:=0 })] (fun j x=>Zxf.l0 j x.1 x.2.1 x.2.2) k
def Zxf.l0.ok (k:Nat):=(lA (Zxf.cok k):Zl Yb _ (.loop (cO (cO (cR (cL (cR (cR (cB Tryz.f62)))))))) (Zxf.l0.s k))
theorem Zxf.ok (k:Nat):Ze Yb 62 (Zxf.con k):=fP (.two .auto (.two .auto (.two (.two .auto (.one (.sum (Zxf.l0.s k)))) .auto))) (Zxf.cok k) Tryz.func62 (sC (Zxf.l0.ok k) sN)
def Zlq (k:Nat) (a1:G51) (a2:G51):Option (Bool):=bif ((((((a1.2==a2.2)&&(a1.1.1==a2.1.1))&&(a1.1.2.1==a2.1.2.1))&&(a1.1.2.2.1==a2.1.2.2.1))&&(a1.1.2.2.2.1==a2.1.2.2.2.1))&&(a1.1.2.2.2.2.1==a2.1.2.2.2.2.1))&&(a1.1.2.2.2.2.2.1==a2.1.2.2.2.2.2.1) then Ya (Zxf k a1.1.2.2.2.2.2.2.1 a2.1.2.2.2.2.2.2.1) fun v3=>bif v3 then Ya (Zxf k a1.1.2.2.2.2.2.2.2 a2.1.2.2.2.2.2.2.2) fun v4=>some v4 else some false else some false
def Zlq.con (k:Nat):Con:=Sig.con { ps:=[.val true T51 (ros T51),.val true T51 (ros T51)],rs:=[.val false [.v .bool]],ntmps:=72 } (fun x=>Zlq k x.1 x.2)
theorem Zlq.ok (k:Nat):Ze Yb 15 (Zlq.con k):=fA (cXr true false (cC (Zxf.ok k) cN)) Tryz.func15
def Z3l (k:Nat) (a1:G29):Option (Int×Int×Int×Int×Int×Str×List Int×List Int×Int):=Ya (Zag k a1) fun v2=>bif !v2.2.2.2.2.2.2.2.2 then some (0,0,0,0,0,[],[],[],1) else some (v2.1,v2.2.1,v2.2.2.1,v2.2.2.2.1,v2.2.2.2.2.1,v2.2.2.2.2.2.1,v2.2.2.2.2.2.2.1,v2.2.2.2.2.2.2.2.1,0)
def Z3l.con (k:Nat):Con:=Sig.con { ps:=[.val true T29 (ros T29)],rs:=[.val true [.v (.int .i64),.v (.int .i64),.v (.int .i64),.v (.int .i64),.v (.int .i64),.v .str,.own 2 (.int .i64),.own 2 (.int .i64),.v (.int .i64)]],ntmps:=15 } (fun x=>Z3l k x)
theorem Z3l.ok (k:Nat):Ze Yb 16 (Z3l.con k):=fA (cXr true false (cC (Zag.ok k) cN)) Tryz.func16
def Z2o (k:Nat) (a1:G29):Option (Int×Int×Int×Int×Int×Str×List Int×List Int×Int):=Ya (Zjf k a1) fun v2=>bif !v2.2.2.2.2.2.2.2.2 then some (0,0,0,0,0,[],[],[],1) else some (v2.1,v2.2.1,v2.2.2.1,v2.2.2.2.1,v2.2.2.2.2.1,v2.2.2.2.2.2.1,v2.2.2.2.2.2.2.1,v2.2.2.2.2.2.2.2.1,0)
def Z2o.con (k:Nat):Con:=Sig.con { ps:=[.val true T29 (ros T29)],rs:=[.val true [.v (.int .i64),.v (.int .i64),.v (.int .i64),.v (.int .i64),.v (.int .i64),.v .str,.own 2 (.int .i64),.own 2 (.int .i64),.v (.int .i64)]],ntmps:=15 } (fun x=>Z2o k x)
theorem Z2o.ok (k:Nat):Ze Yb 17 (Z2o.con k):=fA (cXr true false (cC (Zjf.ok k) cN)) Tryz.func17
def Zjq (k:Nat) (a1:G55) (a2:G55):Option (Bool):=bif a1.2==a2.2 then Ya (Z0d k a1.1 a2.1) fun v3=>some v3 else some false
def Zjq.con (k:Nat):Con:=Sig.con { ps:=[.val true T55 (ros T55),.val true T55 (ros T55)],rs:=[.val false [.v .bool]],ntmps:=17 } (fun x=>Zjq k x.1 x.2)
theorem Zjq.ok (k:Nat):Ze Yb 18 (Zjq.con k):=fA (cXr true false (cC (Z0d.ok k) cN)) Tryz.func18
def Zoe.l0 (k:Nat):Nat→Int→List Str→List Zx→Int→Int→List Str→Option ((List Str))
 | 0,_,_,_,_,_,_=>none
 | j+1,a1,a2,a3,a4,a5,a6=>bif decide (a5<a4) then Ya (Zyh k (a2,a3) (Yc .i64 (3+a5))) fun v7=>Ya (Zw 16 a6 [v7]) fun v8=>Zoe.l0 k j a1 a2 a3 a4 (Yc .i64 (a5+1)) v8 else some a6
def Zoe (k:Nat) (a1:G29):Option (List Str):=Ya (Zoe.l0 k k a1.1 a1.2.1 a1.2.2 a1.1 0 []) fun y2=>some y2
def Zoe.con (k:Nat):Con:=Sig.con { ps:=[.val true T29 (ros T29)],rs:=[.val false [.own 9 .str]],ntmps:=20 } (fun x=>Zoe k x)
def Zoe.cok (k:Nat):=cXr true false (cC (Zyh.ok k) cN)
def Zoe.l0.s (k:Nat):Summ:=lp 20 { tmps:=[(1,.eptr [.v (.int .i64),.bor .str,.bor Zv]),(3,.one (.own 0)),(6,.one (.v (.int .i64))),(7,.one (.v (.int .i64)))],slots:=[(0,.arr false 9 .str)],nb:=1 } [(.exit 0,{ tmps:=[(3,.one (.own 1))],slots:=[(1,.arr false 9 .str)],nb:=2 })] (fun j x=>Zoe.l0 k j x.1 x.2.1 x.2.2.1 x.2.2.2.1 x.2.2.2.2.1 x.2.2.2.2.2) k
def Zoe.l0.ok (k:Nat):=(lA (Zoe.cok k):Zl Yb _ (.loop (cO (cO (cR (cL (cR (cR (cB Tryz.f64)))))))) (Zoe.l0.s k))
theorem Zoe.ok (k:Nat):Ze Yb 64 (Zoe.con k):=fP (.two .auto (.two .auto (.two (.two .auto (.one (.sum (Zoe.l0.s k)))) .auto))) (Zoe.cok k) Tryz.func64 (sC (Zoe.l0.ok k) sN)
def Zhq (a1:G99) (a2:Int):Option (Bool):=Ya (Zkd a1 a2) fun v3=>some (!v3)
def Zhq.con (k:Nat):Con:=Sig.con { ps:=[.val true T99 (ros T99),.rptr (.int .i64)],rs:=[.val false [.v .bool]],ntmps:=8 } (fun x=>Zhq x.1 x.2)
theorem Zhq.ok (k:Nat):Ze Yb 173 (Zhq.con k):=fA (cX (cC (Zkd.ok k) cN)) Tryz.func173
def Zte.l0:Nat→List G99→Int→Int→Int→Option (Int ⊕ (Int×Int))
 | 0,_,_,_,_=>none
 | j+1,a1,a2,a3,a4=>bif decide (a3<a2) then Ya (at? a1 a3) fun v5=>Ya (Zhq v5 a4) fun v6=>bif v6 then some (.inr (a3,a4)) else Zte.l0 j a1 a2 (Yc .i64 (a3+1)) a4 else some (.inl a4)
def Zte (k:Nat) (a1:List G99) (a2:Int):Option (Int×Int):=Ya (Zte.l0 k a1 ((a1.length):Int) 0 a2) fun
  | .inl y3=>some ((-1),y3)
  | .inr y4=>some (y4.1,y4.2)
def Zte.con (k:Nat):Con:=Sig.con { ps:=[.val false (.sl T99) (ros (.sl T99)),.fn 173 [(2,(.int .i64),(Zcc (.int .i64)))]],rs:=[.val false [.v (.int .i64)]],ntmps:=19 } (fun x=>Zte k x.1 x.2)
def Zte.cok (k:Nat):=cX (cC (Zhq.ok k) cN)
def Zte.l0.s (k:Nat):Summ:=lp 19 { tmps:=[(0,.one (.bor T99)),(1,.fn 173 [.ptr 0 0]),(7,.one (.v (.int .i64))),(8,.one (.v (.int .i64)))],slots:=[(0,.box 2 [.v (.int .i64)])],nb:=1 } [(.exit 0,{ tmps:=[],slots:=[(0,.box 2 [.v (.int .i64)])],nb:=1 }),(.ret,{ tmps:=[(4,.one (.v (.int .i64)))],slots:=[(0,.box 2 [.v (.int .i64)])],nb:=1 })] (fun j x=>Zte.l0 j x.1 x.2.1 x.2.2.1 x.2.2.2) k
def Zte.l0.ok (k:Nat):=(lA (Zte.cok k):Zl Yb _ (.loop (cO (cO (cR (cL (cR (cB Yaa))))))) (Zte.l0.s k))
theorem Zte.ok (k:Nat):Ze Yb 212 (Zte.con k):=fP (.two .auto (.two (.two .auto (.one (.sum (Zte.l0.s k)))) .auto)) (Zte.cok k) Yba (sC (Zte.l0.ok k) sN)
def Z2q (k:Nat) (a1:List G99) (a2:Int):Option (Bool×Int):=Ya (Zte k a1 a2) fun v3=>some (decide (0≤v3.1),v3.2)
def Z2q.con (k:Nat):Con:=Sig.con { ps:=[.val false (.sl T99) (ros (.sl T99)),.fn 173 [(2,(.int .i64),(Zcc (.int .i64)))]],rs:=[.val false [.v .bool]],ntmps:=9 } (fun x=>Z2q k x.1 x.2)
theorem Z2q.ok (k:Nat):Ze Yb 172 (Z2q.con k):=fA (cX (cC (Zte.ok k) cN)) Tryz.func172
def Zds (a1:G99) (a2:Int):Option (Bool):=some ((a1.1 != 5)&&(a1.2.1==a2))
def Zds.con (k:Nat):Con:=Sig.con { ps:=[.val true T99 (ros T99),.rptr (.int .i64)],rs:=[.val false [.v .bool]],ntmps:=13 } (fun x=>Zds x.1 x.2)
theorem Zds.ok (k:Nat):Ze Yb 213 (Zds.con k):=fA (cX cN) Tryz.func213
def Zue.l0:Nat→List G99→Int→Int→Int→Option (Int ⊕ (Int×Int))
 | 0,_,_,_,_=>none
 | j+1,a1,a2,a3,a4=>bif decide (a3<a2) then Ya (at? a1 a3) fun v5=>Ya (Zds v5 a4) fun v6=>bif v6 then some (.inr (a3,a4)) else Zue.l0 j a1 a2 (Yc .i64 (a3+1)) a4 else some (.inl a4)
def Zue (k:Nat) (a1:List G99) (a2:Int):Option (Int×Int):=Ya (Zue.l0 k a1 ((a1.length):Int) 0 a2) fun
  | .inl y3=>some ((-1),y3)
  | .inr y4=>some (y4.1,y4.2)
def Zue.con (k:Nat):Con:=Sig.con { ps:=[.val false (.sl T99) (ros (.sl T99)),.fn 213 [(2,(.int .i64),(Zcc (.int .i64)))]],rs:=[.val false [.v (.int .i64)]],ntmps:=19 } (fun x=>Zue k x.1 x.2)
def Zue.cok (k:Nat):=cX (cC (Zds.ok k) cN)
def Zue.l0.s (k:Nat):Summ:=lp 19 { tmps:=[(0,.one (.bor T99)),(1,.fn 213 [.ptr 0 0]),(7,.one (.v (.int .i64))),(8,.one (.v (.int .i64)))],slots:=[(0,.box 2 [.v (.int .i64)])],nb:=1 } [(.exit 0,{ tmps:=[],slots:=[(0,.box 2 [.v (.int .i64)])],nb:=1 }),(.ret,{ tmps:=[(4,.one (.v (.int .i64)))],slots:=[(0,.box 2 [.v (.int .i64)])],nb:=1 })] (fun j x=>Zue.l0 j x.1 x.2.1 x.2.2.1 x.2.2.2) k
def Zue.l0.ok (k:Nat):=(lA (Zue.cok k):Zl Yb _ (.loop (cO (cO (cR (cL (cR (cB Yaa))))))) (Zue.l0.s k))
theorem Zue.ok (k:Nat):Ze Yb 212 (Zue.con k):=fP (.two .auto (.two (.two .auto (.one (.sum (Zue.l0.s k)))) .auto)) (Zue.cok k) Yba (sC (Zue.l0.ok k) sN)
def Ziq (k:Nat) (a1:List G99) (a2:Int):Option (Int):=Ya (Zue k a1 a2) fun v3=>some v3.1
def Ziq.con (k:Nat):Con:=Sig.con { ps:=[.val false (.sl T99) (ros (.sl T99)),.val false (.int .i64) (ros (.int .i64))],rs:=[.val false [.v (.int .i64)]],ntmps:=8 } (fun x=>Ziq k x.1 x.2)
theorem Ziq.ok (k:Nat):Ze Yb 175 (Ziq.con k):=fA (cX (cC (Zue.ok k) cN)) Tryz.func175
def Zwf.l0 (k:Nat):Nat→List G99→Int→Bool→List G99→Int→Int→Option (Bool ⊕ Int)
 | 0,_,_,_,_,_,_=>none
 | j+1,a1,a2,a3,a4,a5,a6=>bif decide (a6<a5) then Ya (at? a4 a6) fun v7=>let e8:=Yc .i64 (a6+1);bif v7.1 != 5 then Ya (Ziq k a1 v7.2.1) fun v9=>bif decide (v9<a6) then some (.inr 12) else Zwf.l0 k j a1 a2 a3 a4 a5 e8 else Zwf.l0 k j a1 v7.2.2.1 (a3&&(decide (a2<v7.2.2.1))) a4 a5 e8 else some (.inl a3)
def Zwf (k:Nat) (a1:List G99) (a2:Int):Option (Int):=Ya (Zjk a2) fun v3=>bif (!v3)||(decide (20<((a1.length):Int))) then some 1 else Ya (Z2q k a1 a2) fun v4=>bif v4.1 then some 1 else Ya (Zwf.l0 k k a1 (-1) true a1 ((a1.length):Int) 0) fun
  | .inl y5=>bif !y5 then some 8 else some 0
  | .inr y6=>some y6
def Zwf.con (k:Nat):Con:=Sig.con { ps:=[.val false (.sl T99) (ros (.sl T99)),.val false (.int .i64) (ros (.int .i64))],rs:=[.val false [.v (.int .i64)]],ntmps:=50 } (fun x=>Zwf k x.1 x.2)
def Zwf.cok (k:Nat):=cX (cC (Zjk.ok k) (cC (Z2q.ok k) (cC (Ziq.ok k) cN)))
def Zwf.l0.s (k:Nat):Summ:=lp 50 { tmps:=[(0,.one (.bor T99)),(5,.one (.v (.int .i64))),(6,.one (.v .bool)),(22,.one (.bor T99)),(23,.one (.v (.int .i64))),(24,.one (.v (.int .i64)))],slots:=[],nb:=1 } [(.exit 0,{ tmps:=[(6,.one (.v .bool))],slots:=[],nb:=1 }),(.ret,{ tmps:=[(4,.one (.v (.int .i64)))],slots:=[],nb:=1 })] (fun j x=>Zwf.l0 k j x.1 x.2.1 x.2.2.1 x.2.2.2.1 x.2.2.2.2.1 x.2.2.2.2.2) k
def Zwf.l0.ok (k:Nat):=(lA (Zwf.cok k):Zl Yb _ (.loop (cO (cO (cR (cL (cR (cR (cR (cR (cB Tryz.f117)))))))))) (Zwf.l0.s k))
theorem Zwf.ok (k:Nat):Ze Yb 117 (Zwf.con k):=fP (.two .auto (.two .auto (.two .auto (.two .auto (.two (.two .auto (.one (.sum (Zwf.l0.s k)))) .auto))))) (Zwf.cok k) Tryz.func117 (sC (Zwf.l0.ok k) sN)
def Z5l (a1:G99):Option (Bool):=some (a1.1==5)
def Z5l.con (k:Nat):Con:=Sig.con { ps:=[.val true T99 (ros T99)],rs:=[.val false [.v .bool]],ntmps:=6 } (fun x=>Z5l x)
theorem Z5l.ok (k:Nat):Ze Yb 191 (Z5l.con k):=fA (cX cN) Tryz.func191
def Zve.l0:Nat→List G99→Int→Int→Option (Unit ⊕ Int)
 | 0,_,_,_=>none
 | j+1,a1,a2,a3=>bif decide (a3<a2) then Ya (at? a1 a3) fun v4=>Ya (Z5l v4) fun v5=>bif v5 then some (.inr a3) else Zve.l0 j a1 a2 (Yc .i64 (a3+1)) else some (.inl ())
def Zve (k:Nat) (a1:List G99):Option (Int):=Ya (Zve.l0 k a1 ((a1.length):Int) 0) fun
  | .inl y2=>some (-1)
  | .inr y3=>some y3
def Zve.con (k:Nat):Con:=Sig.con { ps:=[.val false (.sl T99) (ros (.sl T99)),.fn 191 []],rs:=[.val false [.v (.int .i64)]],ntmps:=19 } (fun x=>Zve k x)
def Zve.cok (k:Nat):=cX (cC (Z5l.ok k) cN)
def Zve.l0.s (k:Nat):Summ:=lp 19 { tmps:=[(0,.one (.bor T99)),(1,.fn 191 []),(7,.one (.v (.int .i64))),(8,.one (.v (.int .i64)))],slots:=[],nb:=0 } [(.exit 0,{ tmps:=[],slots:=[],nb:=0 }),(.ret,{ tmps:=[(4,.one (.v (.int .i64)))],slots:=[],nb:=0 })] (fun j x=>Zve.l0 j x.1 x.2.1 x.2.2) k
def Zve.l0.ok (k:Nat):=(lA (Zve.cok k):Zl Yb _ (.loop (cO (cO (cR (cL (cR (cB Yaa))))))) (Zve.l0.s k))
theorem Zve.ok (k:Nat):Ze Yb 212 (Zve.con k):=fP (.two .auto (.two (.two .auto (.one (.sum (Zve.l0.s k)))) .auto)) (Zve.cok k) Yba (sC (Zve.l0.ok k) sN)
def Zng.l0:Nat→Int→Int→List G99→Option ((Int×List G99))
 | 0,_,_,_=>none
 | j+1,a1,a2,a3=>bif decide (a2<((a3.length):Int)) then Ya (at? a3 a2) fun v4=>Ya (at? a3 a2) fun v5=>Ya (Z5l v5) fun v6=>let e7:=Yc .i64 (a2+1);bif !v6 then Ya (at? a3 a1) fun v8=>Ya (at? a3 a1) fun v9=>Zng.l0 j (Yc .i64 (a1+1)) e7 (Yu a3 (Yk a1) v5) else Zng.l0 j a1 e7 a3 else some (a1,a3)
def Zng (k:Nat) (a1:List G99):Option (List G99):=Ya (Zve k a1) fun v2=>bif v2==(-1) then some a1 else Ya (Zng.l0 k v2 (Yc .i64 (v2+1)) a1) fun y3=>Ya (Zmr y3.1 (y3.2.length)) fun v4=>Ya (Z2b (List.take (Yk y3.1) y3.2++Yl (Yia y3.2-Yk y3.1) (0,(0,(0,[])))) 0 y3.1) fun v5=>some v5
def Zng.con (k:Nat):Con:=Sig.con { ps:=[.mv 99 T99,.fn 191 []],rs:=[.val false [.own 99 T99]],ntmps:=42 } (fun x=>Zng k x)
def Zng.cok (k:Nat):=cXr false true (cC (Z5l.ok k) (cC (Zve.ok k) cN))
def Zng.l0.s (k:Nat):Summ:=lp 42 { tmps:=[(0,.one (.own 1)),(1,.fn 191 []),(5,.one (.v (.int .i64))),(6,.one (.v (.int .i64)))],slots:=[(1,.arr false 99 T99)],nb:=2 } [(.exit 0,{ tmps:=[(0,.one (.own 2)),(5,.one (.v (.int .i64)))],slots:=[(2,.arr false 99 T99)],nb:=3 })] (fun j x=>Zng.l0 j x.1 x.2.1 x.2.2) k
def Zng.l0.ok (k:Nat):=(lA (Zng.cok k):Zl Yb _ (.loop (cO (cO (cR (cL (cR (cR (cR (cB Tryz.f189))))))))) (Zng.l0.s k))
theorem Zng.ok (k:Nat):Ze Yb 189 (Zng.con k):=fP (.two .auto (.two .auto (.two .auto (.two (.two .auto (.one (.sum (Zng.l0.s k)))) .auto)))) (Zng.cok k) Tryz.func189 (sC (Zng.l0.ok k) sN)
def Zwj (a:List G99):Option (List G99):=Ya (Zw 40 [] a) fun y=>some y
def Zwj.sig:Sig:={ ps:=[.val false (.sl T99) (ros (.sl T99))],rs:=[.val false [.own 99 T99]],ntmps:=8 }
def Zwj.con (k:Nat):Con:=Zwj.sig.con (fun x=>Zwj x)
theorem Zwj.ok (k:Nat):Ze Yb 190 (Zwj.con k):=
 Z72 (e:=99) (C:={ ti:=TAB,con:=Z4m [] }) (s:=Zwj.sig) (G:=fun x=>Zwj x) (Zuv Zcv trivial) Tryz.func190 (by kernel_rfl) rfl (by kernel_rfl) (by kernel_rfl) (by kernel_rfl) rfl rfl rfl rfl rfl rfl (by kernel_rfl) (by kernel_rfl)
  (fun x=>⟨_,_,.inl rfl⟩) (fun x y h=>Eq.trans (b:=Zwj x) (by kernel_rfl) h) (fun x y h hl=>by
   have e:x=([]:List G99):=hl T99 x (.inl (by kernel_rfl));subst e;exact Eq.trans (b:=Zwj []) (by kernel_rfl) h)
def Zbl (k:Nat) (a1:List G99):Option (List G99):=Ya (Zwj a1) fun v2=>Ya (Zng k v2) fun v3=>some v3
def Zbl.con (k:Nat):Con:=Sig.con { ps:=[.val false (.sl T99) (ros (.sl T99))],rs:=[.val false [.own 99 T99]],ntmps:=6 } (fun x=>Zbl k x)
theorem Zbl.ok (k:Nat):Ze Yb 135 (Zbl.con k):=fA (cX (cC (Zng.ok k) (cC (Zwj.ok k) cN))) Tryz.func135
def Zwt (a1:G99) (a2:Int):Option (Bool):=some (((a1.1==3)||(a1.1==4))&&(a1.2.2.1==a2))
def Zwt.con (k:Nat):Con:=Sig.con { ps:=[.val true T99 (ros T99),.val false (.int .i64) (ros (.int .i64))],rs:=[.val false [.v .bool]],ntmps:=19 } (fun x=>Zwt x.1 x.2)
theorem Zwt.ok (k:Nat):Ze Yb 180 (Zwt.con k):=fA (cX cN) Tryz.func180
def Zdq (a1:Int) (a2:Int) (a3:List G99) (a4:Int):Option (Bool):=bif a1 != a2 then Ya (at? a3 a1) fun v5=>Ya (Zwt v5 a4) fun v6=>some v6 else some false
def Zdq.con (k:Nat):Con:=Sig.con { ps:=[.val false (.int .i64) (ros (.int .i64)),.rptr (.int .i64),.rptr (.sl T99),.rptr (.int .i64)],rs:=[.val false [.v .bool]],ntmps:=17 } (fun x=>Zdq x.1 x.2.1 x.2.2.1 x.2.2.2)
theorem Zdq.ok (k:Nat):Ze Yb 179 (Zdq.con k):=fA (cX (cC (Zwt.ok k) cN)) Tryz.func179
def Zwe.l0:Nat→List Int→List G99→Int→Int→Int→Int→Option ((Int×Int) ⊕ (Int×Int×Int))
 | 0,_,_,_,_,_,_=>none
 | j+1,a1,a2,a3,a4,a5,a6=>bif decide (a4<a3) then Ya (at? a1 a4) fun v7=>Ya (Zdq v7 a5 a2 a6) fun v8=>bif v8 then some (.inr (a4,a5,a6)) else Zwe.l0 j a1 a2 a3 (Yc .i64 (a4+1)) a5 a6 else some (.inl (a5,a6))
def Zwe (k:Nat) (a1:List Int) (a2:Int) (a3:List G99) (a4:Int):Option (Int×Int×Int):=Ya (Zwe.l0 k a1 a3 ((a1.length):Int) 0 a2 a4) fun
  | .inl y5=>some ((-1),y5.1,y5.2)
  | .inr y6=>some (y6.1,y6.2.1,y6.2.2)
def Zwe.con (k:Nat):Con:=Sig.con { ps:=[.val false (.sl (.int .i64)) (ros (.sl (.int .i64))),.fn 179 [(3,(.int .i64),(Zcc (.int .i64))),(4000000,(.sl T99),[.ro]),(2,(.int .i64),(Zcc (.int .i64)))]],rs:=[.val false [.v (.int .i64)]],ntmps:=19 } (fun x=>Zwe k x.1 x.2.1 x.2.2.1 x.2.2.2)
def Zwe.cok (k:Nat):=cX (cC (Zdq.ok k) cN)
def Zwe.l0.s (k:Nat):Summ:=lp 19 { tmps:=[(0,.one (.bor (.int .i64))),(1,.fn 179 [.ptr 0 0,.rp (.sl T99),.ptr 1 0]),(7,.one (.v (.int .i64))),(8,.one (.v (.int .i64)))],slots:=[(0,.box 3 [.v (.int .i64)]),(1,.box 2 [.v (.int .i64)])],nb:=2 } [(.exit 0,{ tmps:=[],slots:=[(0,.box 3 [.v (.int .i64)]),(1,.box 2 [.v (.int .i64)])],nb:=2 }),(.ret,{ tmps:=[(4,.one (.v (.int .i64)))],slots:=[(0,.box 3 [.v (.int .i64)]),(1,.box 2 [.v (.int .i64)])],nb:=2 })] (fun j x=>Zwe.l0 j x.1 x.2.1 x.2.2.1 x.2.2.2.1 x.2.2.2.2.1 x.2.2.2.2.2) k
def Zwe.l0.ok (k:Nat):=(lA (Zwe.cok k):Zl Yb _ (.loop (cO (cO (cR (cL (cR (cB Tryz.f176))))))) (Zwe.l0.s k))
theorem Zwe.ok (k:Nat):Ze Yb 176 (Zwe.con k):=fP (.two .auto (.two (.two .auto (.one (.sum (Zwe.l0.s k)))) .auto)) (Zwe.cok k) Yya (sC (Zwe.l0.ok k) sN)
def Z3q (k:Nat) (a1:List Int) (a2:Int) (a3:List G99) (a4:Int):Option (Bool×Int×Int):=Ya (Zwe k a1 a2 a3 a4) fun v5=>some (decide (0≤v5.1),v5.2.1,v5.2.2)
def Z3q.con (k:Nat):Con:=Sig.con { ps:=[.val false (.sl (.int .i64)) (ros (.sl (.int .i64))),.fn 179 [(3,(.int .i64),(Zcc (.int .i64))),(4000000,(.sl T99),[.ro]),(2,(.int .i64),(Zcc (.int .i64)))]],rs:=[.val false [.v .bool]],ntmps:=9 } (fun x=>Z3q k x.1 x.2.1 x.2.2.1 x.2.2.2)
theorem Z3q.ok (k:Nat):Ze Yb 178 (Z3q.con k):=fA (cX (cC (Zwe.ok k) cN)) Tryz.func178
def Zcq (k:Nat) (a1:Int) (a2:List G99) (a3:List Int) (a4:List Int):Option (Bool×List Int):=Ya (at? a2 a1) fun v5=>bif Z6f v5.2.1 a3 then some (true,a3) else Ya (Z3q k a4 a1 a2 v5.2.1) fun v6=>some (!v6.1,a3)
def Zcq.con (k:Nat):Con:=Sig.con { ps:=[.val false (.int .i64) (ros (.int .i64)),.rptr (.sl T99),.ref 204 (.sl (.int .i64)) [.own 1000204],.rptr (.sl (.int .i64))],rs:=[.val false [.v .bool]],ntmps:=21 } (fun x=>Zcq k x.1 x.2.1 x.2.2.1 x.2.2.2)
theorem Zcq.ok (k:Nat):Ze Yb 177 (Zcq.con k):=fA (cX (cC (Z3q.ok k) cN)) Tryz.func177
def Zke.l0 (k:Nat):Nat→List Int→List Int→Int→Int→List G99→List Int→Option ((List G99×List Int) ⊕ (Int×List G99×List Int))
 | 0,_,_,_,_,_,_=>none
 | j+1,a1,a2,a3,a4,a5,a6=>bif decide (a4<a3) then Ya (at? a1 a4) fun v7=>Ya (Zcq k v7 a5 a6 a2) fun v8=>bif v8.1 then some (.inr (a4,a5,v8.2)) else Zke.l0 k j a1 a2 a3 (Yc .i64 (a4+1)) a5 v8.2 else some (.inl (a5,a6))
def Zke (k:Nat) (a1:List Int) (a2:List G99) (a3:List Int) (a4:List Int):Option (Int×List G99×List Int):=Ya (Zke.l0 k k a1 a4 ((a1.length):Int) 0 a2 a3) fun
  | .inl y5=>some ((-1),y5.1,y5.2)
  | .inr y6=>some (y6.1,y6.2.1,y6.2.2)
def Zke.con (k:Nat):Con:=Sig.con { ps:=[.val false (.sl (.int .i64)) (ros (.sl (.int .i64))),.fn 177 [(41,(.sl T99),(Zcc (.sl T99))),(204,(.sl (.int .i64)),[.own 1000204]),(4000000,(.sl (.int .i64)),[.ro])]],rs:=[.val false [.v (.int .i64)]],ntmps:=19 } (fun x=>Zke k x.1 x.2.1 x.2.2.1 x.2.2.2)
def Zke.cok (k:Nat):=cX (cC (Zcq.ok k) cN)
def Zke.l0.s (k:Nat):Summ:=lp 19 { tmps:=[(0,.one (.bor (.int .i64))),(1,.fn 177 [.ptr 0 0,.ptr 1 0,.rp (.sl (.int .i64))]),(7,.one (.v (.int .i64))),(8,.one (.v (.int .i64)))],slots:=[(0,.box 41 [.v (.sl T99)]),(1,.box 204 [.own 3]),(3,.arr false 1000204 (.int .i64))],nb:=4 } [(.exit 0,{ tmps:=[],slots:=[(0,.box 41 [.v (.sl T99)]),(1,.box 204 [.own 4]),(4,.arr false 1000204 (.int .i64))],nb:=5 }),(.ret,{ tmps:=[(4,.one (.v (.int .i64)))],slots:=[(0,.box 41 [.v (.sl T99)]),(1,.box 204 [.own 4]),(4,.arr false 1000204 (.int .i64))],nb:=5 })] (fun j x=>Zke.l0 k j x.1 x.2.1 x.2.2.1 x.2.2.2.1 x.2.2.2.2.1 x.2.2.2.2.2) k
def Zke.l0.ok (k:Nat):=(lA (Zke.cok k):Zl Yb _ (.loop (cO (cO (cR (cL (cR (cB Tryz.f176))))))) (Zke.l0.s k))
theorem Zke.ok (k:Nat):Ze Yb 176 (Zke.con k):=fP (.two .auto (.two (.two .auto (.one (.sum (Zke.l0.s k)))) .auto)) (Zke.cok k) Yya (sC (Zke.l0.ok k) sN)
def slices_Delete_int (l:List Int) (i j:Int):Option (List Int):=if 0≤i∧i≤j∧j≤(l.length:Int) then some (l.take i.toNat++l.drop j.toNat) else none
def slices_Delete_int.con (k:Nat):Con:={ ms:=[.mv,.val [.ro],.val [.ro]],f:=fun xs=>match xs with
 | [.mv e (.int .i64) l,.val false [.leaf (.int .i64 i)],.val false [.leaf (.int .i64 j)]]=>bif Nat.beq e 3 then .opt (List Int) (slices_Delete_int l i j) fun r=>⟨[.val false [.own e (.int .i64) r]],[]⟩ else .fail
 | _=>.fail }
theorem slices_Delete_int.drew (w:World) (q:Nat):(w.drewN q).heap=w.heap∧(w.drewN q).os=w.os∧(w.drewN q).tape=w.tape∧(w.drewN q).output=w.output:=⟨rfl,rfl,rfl,rfl⟩
theorem slices_Delete_int.ok (k:Nat):Ze Yb 181 (slices_Delete_int.con k):=by
 refine ⟨(Zujb Tryz.func181 (by kernel_rfl) (show Tryz.f181.body=some (cB Tryz.f181) by kernel_rfl)),?_⟩
 intro xs rr hrr w vs F L M hF hnd hgl hargs
 unfold slices_Delete_int.con at hrr
 dsimp only at hrr
 split at hrr
 ·rename_i e l i j
  cases he:Nat.beq e 3 with
  | false=>rw [he] at hrr;cases hrr
  | true=>
  rw [he] at hrr;have hm:Z0 e=false:=by rw [Nat.eq_of_beq_eq_true he];rfl
  replace hrr:(slices_Delete_int l i j).map (fun r=>(⟨[.val false [.own e (.int .i64) r]],[]⟩:RR))=some rr:=hrr;unfold slices_Delete_int at hrr;split at hrr
  ·rename_i hij
   obtain ⟨h0,h1,h2⟩:=hij;cases hrr
   match vs,hargs with
   | [v1,v2,v3],⟨_,_,_,_,hL,hM,⟨rfl,rfl,hrow⟩,_,_,_,_,hL2,hM2,⟨rfl,hv2,hn2⟩,_,_,_,_,hL3,hM3,⟨rfl,hv3,hn3⟩,hn4,hn5⟩=>
   have hv2:v2 = .int .i64 i:=hv2;have hv3:v3 = .int .i64 j:=hv3;subst hv2;subst hv3;subst hn2;subst hn3;subst hn4;subst hn5;subst hL3;subst hM3;subst hL2;subst hM2;subst hL;subst hM;obtain ⟨a,rfl⟩:∃a:Nat,i=(a:Int):=⟨i.toNat,by omega⟩;obtain ⟨b,rfl⟩:∃b:Nat,j=(b:Int):=⟨j.toNat,by omega⟩;rw [Ye,Ye];rcases hrow.slice hm with ⟨rfl,rfl⟩ | ⟨g,cap,cs,fr,rfl,hh,hun,hfz,hlc,hcs,hcells⟩
   ·have hb0:b=0:=by
     have:(([]:List Int).length:Int)=0:=rfl;have h2:(b:Int)≤(([]:List Int).length:Int):=h2;omega
    have ha0:a=0:=by omega
    subst hb0;subst ha0;refine (Tryz.slices_Delete_int_empty none 0 w).mono ?_;rintro e' w' ⟨rfl,rfl⟩;refine ⟨_,rfl,⟨rfl,rfl,rfl,Yj _,fun _ _ _=>rfl⟩,[],[.row (.slice none 0 0)],?_,Yka,rfl,rfl,Zfc.ok (.inl ⟨rfl,rfl⟩) hm,rfl⟩;intro c hc q hq;rw [Y0.1 hc] at hq;cases hq
   ·have hsz:(Ty.int IntKind.i64).sz=1:=rfl
    rw [hsz,Yp] at hcs;have hab:a≤b:=by omega
    have hbl:b≤l.length:=by omega
    obtain ⟨rfl,hcapm⟩:=hfz rfl
    have hcell:∀q,q<l.length→w.cell? ⟨g,0+q,none⟩=some (.int .i64 (l.getD q 0)):=by
     intro q hq;have h3:=hcells q l[q] (Ys hq);have h3:(cs.toList.drop (q*1)).take 1=[.int .i64 l[q]]:=h3;rw [Yp] at h3
     have h4:cs.toList[q]? = some (.int .i64 l[q]):=by
      have:=congrArg (fun z=>z[0]?) h3;simpa using this
     rw [cell_of_row w g (0+q) cs e (0,0) hh,Yn,← Array.getElem?_toList,h4,List.getD_eq_getElem?_getD,Ys hq];rfl
    refine (Tryz.slices_Delete_int_cells g 0 l.length cap a b l w (Yj _) hlc (by unfold maxLen at hcapm;omega) hab hbl hcell (fun q hq=>by
     simp only [World.frozen?,hh];simp)).mono ?_
    rintro e' w' ⟨rfl,q,rfl⟩;rw [List.take_of_length_le (Yj l.length)];obtain ⟨d1,d2,d3,d4⟩:=slices_Delete_int.drew w q;generalize hvs:((l.take a++l.drop b++Yl (b-a) (0:Int)).map (Value.int .i64))=us;have hul:us.length=l.length:=by rw [← hvs];simp;omega
    obtain ⟨r1,r2,r3,r4⟩:=Zb7 g us 0 (w.drewN q);have hh':(w.drewN q).heap[g]? = some (.cells cs e (0,0)):=by rw [d1];exact hh
    have hblk:=Zrs g us 0 cs (w.drewN q) hh' (by omega);have hgl:g<w.heap.size:=(Array.getElem?_eq_some_iff.1 hh).1;have hres:(l.take a++l.drop b).length=l.length-(b-a):=by simp;omega
    refine ⟨_,rfl,⟨r1.trans d2,r2.trans d3,r3.trans d4,by rw [r4,d1];exact Yj _,fun x hx hn=>?_⟩,[],[.row (.slice (some ⟨g,0,none⟩) (l.length-(b-a)) cap)],?_,?_,rfl,rfl,Zfc.ok (.inr ⟨g,cap,_,(0,0),by rw [hres],hblk,.inl rfl,fun _=>⟨rfl,hcapm⟩,by rw [hres];omega,?_,?_⟩) hm,rfl⟩
    ·rw [Ze1 g us 0 (w.drewN q) x (fun ex=>hn (by subst ex;exact Y0.2 rfl)),d1]
    ·intro c hc x hx
     rw [Y0.1 hc] at hx;cases hx;exact ⟨.inl (Y0.2 rfl),by rw [r4,d1];exact hgl⟩
    ·exact List.nodup_cons.2 ⟨(fun h=>nomatch h),Yka⟩
    ·rw [List.size_toArray,Zks _ _ _ (by simp;omega),Array.length_toList,hcs,hsz,Yp]
    ·intro x y hx
     show ((overL cs.toList 0 us).toArray.toList.drop (x*1)).take 1=[.int .i64 y];have hxl:=(List.getElem?_eq_some_iff.1 hx).1
     have hus:us[x]? = some (.int .i64 y):=by
      rw [← hvs,List.getElem?_map,List.getElem?_append_left hxl,hx];rfl
     rw [Yp,List.toList_toArray];apply List.ext_getElem?;intro m;rw [List.getElem?_take,List.getElem?_drop,Z9m _ _ _ (by simp;omega)];cases m with
     | zero=>
      rw [Xc (by omega),Xd (by omega),Xc (by omega),Nat.add_zero,Nat.sub_zero,hus];rfl
     | succ m=>rw [Xd (by omega)];rfl
  ·cases hrr
 ·cases hrr
def Z6b.l0:Nat→Int→Int→List Int→Option ((List Int))
 | 0,_,_,_=>none
 | j+1,a1,a2,a3=>bif decide (a2<a1) then Ya (at? a3 a2) fun v4=>Ya (at? a3 a2) fun v5=>Z6b.l0 j a1 (Yc .i64 (a2+1)) (Yu a3 (Yk a2) a2) else some a3
def Z6b.l1 (k:Nat):Nat→List G99→List Zge→List Int→List Int→Option ((List G99×List Zge×List Int×List Int))
 | 0,_,_,_,_=>none
 | j+1,a1,a2,a3,a4=>bif decide (0<((a3.length):Int)) then Ya (Zke k a3 a1 a4 a3) fun v5=>bif decide (v5.1<0) then Ya (at? a3 0) fun v6=>Ya (at? a3 0) fun v7=>let e8:=at? v5.2.1 v7;Ya (e8) fun v9=>Ya (Zw 32 a2 [(1,(v7,(v9.2.1,((v5.2.2.length):Int))))]) fun v10=>Ya (e8) fun v11=>Z6b.l1 k j v5.2.1 v10 a3 (Z6d v11.2.1 v5.2.2) else let e12:=at? a3 v5.1;Ya (e12) fun v13=>Ya (e12) fun v14=>Ya (at? v5.2.1 v14) fun v15=>Ya (Zw 32 a2 [(2,(v14,(v15.2.1,0)))]) fun v16=>Ya (slices_Delete_int a3 v5.1 (Yc .i64 (v5.1+1))) fun v17=>Z6b.l1 k j v5.2.1 v16 v17 v5.2.2 else some (a1,a2,a3,a4)
def Z6b (k:Nat) (a1:List G99):Option (List Zge):=Ya (Zbl k a1) fun v2=>Ya (Z9g 8 ((v2.length):Int) ((v2.length):Int) 0) fun v3=>Ya (Z6b.l0 k ((v3.length):Int) 0 v3) fun y4=>Ya (Z6b.l1 k k v2 [] y4 []) fun y5=>some y5.2.1
def Z6b.con (k:Nat):Con:=Sig.con { ps:=[.val false (.sl T99) (ros (.sl T99))],rs:=[.val false [.own 150 Zlc]],ntmps:=76 } (fun x=>Z6b k x)
def Z6b.cok (k:Nat):=cX (cC (Zbl.ok k) (cC (Zke.ok k) (cC (slices_Delete_int.ok k) cN)))
def Z6b.l0.s (k:Nat):Summ:=lp 76 { tmps:=[(4,.one (.ptr 3 0)),(17,.one (.v (.int .i64))),(18,.one (.v (.int .i64)))],slots:=[(3,.box 203 [.own 4]),(4,.arr false 3 (.int .i64))],nb:=5 } [(.exit 0,{ tmps:=[],slots:=[(3,.box 203 [.own 5]),(5,.arr false 3 (.int .i64))],nb:=6 })] (fun j x=>Z6b.l0 j x.1 x.2.1 x.2.2) k
def Z6b.l0.ok (k:Nat):=(lA (Z6b.cok k):Zl Yb _ (.loop (cO (cO (cR (cL (cR (cR (cR (cB Tryz.f118))))))))) (Z6b.l0.s k))
def Z6b.l1.s (k:Nat):Summ:=lp 76 { tmps:=[(3,.one (.ptr 1 0)),(4,.one (.ptr 3 0)),(6,.one (.ptr 7 0)),(7,.one (.own 8))],slots:=[(1,.box 41 [.v (.sl T99)]),(3,.box 203 [.own 9]),(7,.box 204 [.own 10]),(8,.arr false 150 Zlc),(9,.arr false 3 (.int .i64)),(10,.arr false 1000204 (.int .i64))],nb:=11 } [(.exit 2,{ tmps:=[(7,.one (.own 11))],slots:=[(1,.box 41 [.v (.sl T99)]),(3,.box 203 [.own 12]),(7,.box 204 [.own 13]),(11,.arr false 150 Zlc),(12,.arr false 3 (.int .i64)),(13,.arr false 1000204 (.int .i64))],nb:=14 })] (fun j x=>Z6b.l1 k j x.1 x.2.1 x.2.2.1 x.2.2.2) k
def Z6b.l1.ok (k:Nat):=(lA (Z6b.cok k):Zl Yb _ (.loop (cO (cO (cL (cR (cR (cR (cR (cR (cR (cB Tryz.f118))))))))))) (Z6b.l1.s k))
theorem Z6b.ok (k:Nat):Ze Yb 118 (Z6b.con k):=fP (.two .auto (.two .auto (.two .auto (.two (.two .auto (.one (.sum (Z6b.l0.s k)))) (.two .auto (.two .auto (.two (.one (.sum (Z6b.l1.s k))) .auto))))))) (Z6b.cok k) Tryz.func118 (sC (Z6b.l0.ok k) (sC (Z6b.l1.ok k) sN))
def Zvf.l0:Nat→Int→List Zge→Int→Int→Option (Int)
 | 0,_,_,_,_=>none
 | j+1,a1,a2,a3,a4=>bif decide (a4<a3) then Ya (at? a2 a4) fun v5=>let e6:=Yc .i64 (a4+1);bif v5.1==1 then Zvf.l0 j (Yc .i64 (a1+1)) a2 a3 e6 else Zvf.l0 j a1 a2 a3 e6 else some a1
def Zvf (k:Nat) (a1:List Zge):Option (Int):=Ya (Zvf.l0 k 0 a1 ((a1.length):Int) 0) fun y2=>some y2
def Zvf.con (k:Nat):Con:=Sig.con { ps:=[.val false (.sl Zlc) (ros (.sl Zlc))],rs:=[.val false [.v (.int .i64)]],ntmps:=19 } (fun x=>Zvf k x)
def Zvf.cok (k:Nat):=cX cN
def Zvf.l0.s (k:Nat):Summ:=lp 19 { tmps:=[(3,.one (.v (.int .i64))),(6,.one (.bor Zlc)),(7,.one (.v (.int .i64))),(8,.one (.v (.int .i64)))],slots:=[],nb:=0 } [(.exit 0,{ tmps:=[(3,.one (.v (.int .i64)))],slots:=[],nb:=0 })] (fun j x=>Zvf.l0 j x.1 x.2.1 x.2.2.1 x.2.2.2) k
def Zvf.l0.ok (k:Nat):=(lA (Zvf.cok k):Zl Yb _ (.loop (cO (cO (cR (cL (cR (cR (cB Tryz.f119)))))))) (Zvf.l0.s k))
theorem Zvf.ok (k:Nat):Ze Yb 119 (Zvf.con k):=fP (.two .auto (.two .auto (.two (.two .auto (.one (.sum (Zvf.l0.s k)))) .auto))) (Zvf.cok k) Tryz.func119 (sC (Zvf.l0.ok k) sN)
def Zxt (a1:List Zge):Option (Int):=some ((a1.length):Int)
def Zxt.con (k:Nat):Con:=Sig.con { ps:=[.val false (.sl Zlc) (ros (.sl Zlc))],rs:=[.val false [.v (.int .i64)]],ntmps:=5 } (fun x=>Zxt x)
theorem Zxt.ok (k:Nat):Ze Yb 120 (Zxt.con k):=fA (cX cN) Tryz.func120
def Zkk (k:Nat) (a1:G29):Option (Bool):=Ya (Zag k a1) fun v2=>bif !v2.2.2.2.2.2.2.2.2 then some false else Ya (Zoe k a1) fun v3=>Ya (Z4l k v3) fun v4=>bif !v4 then some false else bif (v2.1==1)||(v2.1==2) then some true else Ya (Zpe k a1 (v2.1,(v2.2.1,(v2.2.2.1,(v2.2.2.2.1,(v2.2.2.2.2.1,(v2.2.2.2.2.2.1,(v2.2.2.2.2.2.2.1,v2.2.2.2.2.2.2.2.1)))))))) fun v5=>Ya (Zwf k v5 a1.1) fun v6=>bif v6 != 0 then some false else Ya (Z6b k v5) fun v7=>Ya (Zvf k v7) fun v8=>bif decide (v8≤v2.2.2.2.1) then Ya (Zxt v7) fun v9=>some (decide (v2.2.2.2.2.1≤v9)) else some false
def Zkk.con (k:Nat):Con:=Sig.con { ps:=[.val true T29 (ros T29)],rs:=[.val false [.v .bool]],ntmps:=50 } (fun x=>Zkk k x)
theorem Zkk.ok (k:Nat):Ze Yb 63 (Zkk.con k):=fA (cXr true false (cC (Z4l.ok k) (cC (Zag.ok k) (cC (Zpe.ok k) (cC (Zoe.ok k) (cC (Zwf.ok k) (cC (Z6b.ok k) (cC (Zvf.ok k) (cC (Zxt.ok k) cN))))))))) Tryz.func63
def Z6k (k:Nat) (a1:G29):Option (List Str×Int):=Ya (Zkk k a1) fun v2=>bif !v2 then some ([],1) else Ya (Zoe k a1) fun v3=>some (v3,0)
def Z6k.con (k:Nat):Con:=Sig.con { ps:=[.val true T29 (ros T29)],rs:=[.val true [.own 9 .str,.v (.int .i64)]],ntmps:=10 } (fun x=>Z6k k x)
theorem Z6k.ok (k:Nat):Ze Yb 19 (Z6k.con k):=fA (cXr true false (cC (Zkk.ok k) (cC (Zoe.ok k) cN))) Tryz.func19
def Zwo (k:Nat) (a1:G29):Option (List Str×Int):=Ya (Zyj k a1) fun v2=>bif !v2 then Ya (Z0n 1) fun v3=>some (v3.1,v3.2) else Ya (Zde k a1) fun v4=>some (v4,0)
def Zwo.con (k:Nat):Con:=Sig.con { ps:=[.val true T29 (ros T29)],rs:=[.val true [.own 9 .str,.v (.int .i64)]],ntmps:=10 } (fun x=>Zwo k x)
theorem Zwo.ok (k:Nat):Ze Yb 20 (Zwo.con k):=fA (cXr true false (cC (Zyj.ok k) (cC (Z0n.ok k) (cC (Zde.ok k) cN)))) Tryz.func20
def Zcg.l0:Nat→List G99→List G99→Int→Option (Unit ⊕ Bool)
 | 0,_,_,_=>none
 | j+1,a1,a2,a3=>bif decide (a3<((a1.length):Int)) then Ya (at? a1 a3) fun v4=>Ya (at? a2 a3) fun v5=>bif !((v4.1==v5.1)&&((v4.2.1==v5.2.1)&&((v4.2.2.1==v5.2.2.1)&&(v4.2.2.2==v5.2.2.2)))) then some (.inr false) else Zcg.l0 j a1 a2 (Yc .i64 (a3+1)) else some (.inl ())
def Zcg (k:Nat) (a1:List G99) (a2:List G99):Option (Bool):=bif ((a1.length):Int) != ((a2.length):Int) then some false else Ya (Zcg.l0 k a1 a2 0) fun
  | .inl y3=>some true
  | .inr y4=>some y4
def Zcg.con (k:Nat):Con:=Sig.con { ps:=[.val false (.sl T99) (ros (.sl T99)),.val false (.sl T99) (ros (.sl T99))],rs:=[.val false [.v .bool]],ntmps:=26 } (fun x=>Zcg k x.1 x.2)
def Zcg.cok (k:Nat):=cX cN
def Zcg.l0.s (k:Nat):Summ:=lp 26 { tmps:=[(0,.one (.bor T99)),(1,.one (.bor T99)),(5,.one (.v (.int .i64)))],slots:=[],nb:=0 } [(.exit 0,{ tmps:=[],slots:=[],nb:=0 }),(.ret,{ tmps:=[(4,.one (.v .bool))],slots:=[],nb:=0 })] (fun j x=>Zcg.l0 j x.1 x.2.1 x.2.2) k
def Zcg.l0.ok (k:Nat):=(lA (Zcg.cok k):Zl Yb _ (.loop (cO (cO (cR (cL (cR (cR (cB Tryz.f21)))))))) (Zcg.l0.s k))
theorem Zcg.ok (k:Nat):Ze Yb 21 (Zcg.con k):=fP (.two .auto (.two .auto (.two (.two .auto (.one (.sum (Zcg.l0.s k)))) .auto))) (Zcg.cok k) Tryz.func21 (sC (Zcg.l0.ok k) sN)
def Zfn (k:Nat) (a1:G29) (a2:Int):Option (Str):=Ya (Zag k a1) fun v3=>bif !v3.2.2.2.2.2.2.2.2 then some ([]) else Ya (Znb a2 0 (Yc .i64 (v3.2.2.2.1-1))) fun v4=>bif !v4 then some ([]) else let e5:=at? v3.2.2.2.2.2.2.2.1 a2;Ya (e5) fun v6=>Ya (e5) fun v7=>Ya (Zpj k a1 v7) fun v8=>some v8
def Zfn.con (k:Nat):Con:=Sig.con { ps:=[.val true T29 (ros T29),.val false (.int .i64) (ros (.int .i64))],rs:=[.val false [.v .str]],ntmps:=29 } (fun x=>Zfn k x.1 x.2)
theorem Zfn.ok (k:Nat):Ze Yb 22 (Zfn.con k):=fA (cXr true false (cC (Znb.ok k) (cC (Zag.ok k) (cC (Zpj.ok k) cN)))) Tryz.func22
def Zvn (k:Nat) (a1:G29) (a2:Int):Option (Str):=Ya (Zjf k a1) fun v3=>bif !v3.2.2.2.2.2.2.2.2 then some ([]) else Ya (Z9 a2 0 (Yc .i64 (v3.2.2.2.1-1))) fun v4=>bif !v4 then some ([]) else Ya (Znm k a1 (v3.1,(v3.2.1,(v3.2.2.1,(v3.2.2.2.1,(v3.2.2.2.2.1,(v3.2.2.2.2.2.1,(v3.2.2.2.2.2.2.1,v3.2.2.2.2.2.2.2.1))))))) a2) fun v5=>some v5
def Zvn.con (k:Nat):Con:=Sig.con { ps:=[.val true T29 (ros T29),.val false (.int .i64) (ros (.int .i64))],rs:=[.val false [.v .str]],ntmps:=26 } (fun x=>Zvn k x.1 x.2)
theorem Zvn.ok (k:Nat):Ze Yb 23 (Zvn.con k):=fA (cXr true false (cC (Zjf.ok k) (cC (Z9.ok k) (cC (Znm.ok k) cN)))) Tryz.func23
def Zbq (k:Nat) (a1:Str) (a2:Int):Option (Bool×Int×Str):=Ya (Zal k a1) fun v3=>Ya (Zqc k (v3.1,(0,false))) fun v4=>Ya (Zqc k v4.2) fun v5=>Ya (Z7g k v5.2) fun v6=>bif (((v3.2 != 0)||v6.2.2.2)||(v6.2.2.1 != ((v3.1.length):Int)))||(v4.1 != a2) then some (true,0,[]) else Ya (Zti a2) fun v7=>bif !v7 then some (true,0,[]) else Ya (Znb v5.1 0 39) fun v8=>bif (!v8)||(((v6.1.length):Int) != 8) then some (true,0,[]) else some (false,v5.1,v6.1)
def Zbq.con (k:Nat):Con:=Sig.con { ps:=[.val false .str (ros .str),.val false (.int .i64) (ros (.int .i64))],rs:=[.val true [.v .bool,.v (.int .i64),.v .str]],ntmps:=66 } (fun x=>Zbq k x.1 x.2)
theorem Zbq.ok (k:Nat):Ze Yb 72 (Zbq.con k):=fA (cX (cC (Zti.ok k) (cC (Znb.ok k) (cC (Zal.ok k) (cC (Zqc.ok k) (cC (Z7g.ok k) cN)))))) Tryz.func72
def Z2l (k:Nat) (a1:Str) (a2:Int):Option (Bool×Int×Str):=bif decide (8000<((a1.length):Int)) then some (true,0,[]) else Ya (Zbq k a1 a2) fun v3=>some (v3.1,v3.2.1,v3.2.2)
def Z2l.con (k:Nat):Con:=Sig.con { ps:=[.val false .str (ros .str),.val false (.int .i64) (ros (.int .i64))],rs:=[.val true [.v .bool,.v (.int .i64),.v .str]],ntmps:=12 } (fun x=>Z2l k x.1 x.2)
theorem Z2l.ok (k:Nat):Ze Yb 25 (Z2l.con k):=fA (cX (cC (Zbq.ok k) cN)) Tryz.func25
def Zio (k:Nat) (a1:G29):Option (Bool):=Ya (Zag k a1) fun v2=>some v2.2.2.2.2.2.2.2.2
def Zio.con (k:Nat):Con:=Sig.con { ps:=[.val true T29 (ros T29)],rs:=[.val false [.v .bool]],ntmps:=11 } (fun x=>Zio k x)
theorem Zio.ok (k:Nat):Ze Yb 27 (Zio.con k):=fA (cXr true false (cC (Zag.ok k) cN)) Tryz.func27
def Z1o (k:Nat) (a1:G29):Option (Bool):=Ya (Zjf k a1) fun v2=>some v2.2.2.2.2.2.2.2.2
def Z1o.con (k:Nat):Con:=Sig.con { ps:=[.val true T29 (ros T29)],rs:=[.val false [.v .bool]],ntmps:=11 } (fun x=>Z1o k x)
theorem Z1o.ok (k:Nat):Ze Yb 28 (Z1o.con k):=fA (cXr true false (cC (Zjf.ok k) cN)) Tryz.func28
def Zen (k:Nat) (a1:G29):Option (Bool):=Ya (Zkk k a1) fun v2=>some v2
def Zen.con (k:Nat):Con:=Sig.con { ps:=[.val true T29 (ros T29)],rs:=[.val false [.v .bool]],ntmps:=5 } (fun x=>Zen k x)
theorem Zen.ok (k:Nat):Ze Yb 29 (Zen.con k):=fA (cXr true false (cC (Zkk.ok k) cN)) Tryz.func29
def Zmo (a1:List Int) (a2:Int) (a3:Int):Option (Int):=bif (decide (a3≤1))||(((a1.length):Int)==0) then some 0 else Ya (nz? ((a1.length):Int)) fun v4=>Ya (at? a1 (Y2 a2 ((a1.length):Int))) fun v5=>Ya (nz? a3) fun v6=>some (Y2 (Yc .i64 v5) a3)
def Zmo.con (k:Nat):Con:=Sig.con { ps:=[.val false (.sl (.int .u8)) (ros (.sl (.int .u8))),.val false (.int .i64) (ros (.int .i64)),.val false (.int .i64) (ros (.int .i64))],rs:=[.val false [.v (.int .i64)]],ntmps:=24 } (fun x=>Zmo x.1 x.2.1 x.2.2)
theorem Zmo.ok (k:Nat):Ze Yb 31 (Zmo.con k):=fA (cX cN) Tryz.func31
def Zbg.l0:Nat→Str→Int→Int→List Int→Option ((List Int))
 | 0,_,_,_,_=>none
 | j+1,a1,a2,a3,a4=>bif decide (a3<a2) then Ya (at? a4 a3) fun v5=>Ya (at? a4 a3) fun v6=>Ya (at? a1 a3) fun v7=>Ya (at? a4 a3) fun v8=>Ya (at? a4 a3) fun v9=>Zbg.l0 j a1 a2 (Yc .i64 (a3+1)) (Yu a4 (Yk a3) (intBits .xor .u8 v6 (v7.toNat:Int))) else some a4
def Zbg (k:Nat) (a1:Str) (a2:Str):Option (Str):=Ya (Z7w (a1.length) 1) fun v3=>Ya (Zbg.l0 k a2 (((Zgb a1).length):Int) 0 (Zgb a1)) fun y4=>some (Ztb y4)
def Zbg.con (k:Nat):Con:=Sig.con { ps:=[.val false .str (ros .str),.val false .str (ros .str)],rs:=[.val false [.v .str]],ntmps:=26 } (fun x=>Zbg k x.1 x.2)
def Zbg.cok (k:Nat):=cX cN
def Zbg.l0.s (k:Nat):Summ:=lp 26 { tmps:=[(1,.one (.v .str)),(5,.one (.own 1)),(10,.one (.v (.int .i64))),(11,.one (.v (.int .i64)))],slots:=[(1,.arr true 5 (.int .u8))],nb:=2 } [(.exit 0,{ tmps:=[(5,.one (.own 2))],slots:=[(2,.arr true 5 (.int .u8))],nb:=3 })] (fun j x=>Zbg.l0 j x.1 x.2.1 x.2.2.1 x.2.2.2) k
def Zbg.l0.ok (k:Nat):=(lA (Zbg.cok k):Zl Yb _ (.loop (cO (cO (cR (cL (cR (cR (cB Tryz.f216)))))))) (Zbg.l0.s k))
theorem Zbg.ok (k:Nat):Ze Yb 216 (Zbg.con k):=fP (.two .auto (.two .auto (.two (.two .auto (.one (.sum (Zbg.l0.s k)))) .auto))) (Zbg.cok k) Tryz.func216 (sC (Zbg.l0.ok k) sN)
def Zgn (k:Nat) (a1:G99) (a2:Str):Option (Str):=bif a1.1==1 then some ([0,0,0,0,0,0,0,0]:Str) else bif a1.1==2 then some a1.2.2.2 else bif a1.1==3 then some a2 else Ya (Zbg k a2 a1.2.2.2) fun v3=>some v3
def Zgn.con (k:Nat):Con:=Sig.con { ps:=[.val true T99 (ros T99),.val false .str (ros .str)],rs:=[.val false [.v .str]],ntmps:=20 } (fun x=>Zgn k x.1 x.2)
theorem Zgn.ok (k:Nat):Ze Yb 187 (Zgn.con k):=fA (cX (cC (Zbg.ok k) cN)) Tryz.func187
def Z8f.l0 (k:Nat):Nat→List Str→Int→Int→List Str→List G99→Option ((List Str))
 | 0,_,_,_,_,_=>none
 | j+1,a1,a2,a3,a4,a5=>bif decide (a3<a2) then Ya (at? a5 a3) fun v6=>Ya (at? a5 a3) fun v7=>Ya (at? a1 v7.2.2.1) fun v8=>Ya (Zgn k v7 v8) fun v9=>let e10:=at? a4 v7.2.1;Ya (e10) fun v11=>Ya (e10) fun v12=>Z8f.l0 k j a1 a2 (Yc .i64 (a3+1)) (Yu a4 (Yk v7.2.1) v9) a5 else some a4
def Z8f (k:Nat) (a1:List Str) (a2:List G99):Option (List Str):=Ya (slices_Clone_string a1) fun v3=>Ya (Zbl k a2) fun v4=>Ya (Z8f.l0 k k a1 ((v4.length):Int) 0 v3 v4) fun y5=>some y5
def Z8f.con (k:Nat):Con:=Sig.con { ps:=[.val false (.sl .str) (ros (.sl .str)),.val false (.sl T99) (ros (.sl T99))],rs:=[.val false [.own 9 .str]],ntmps:=30 } (fun x=>Z8f k x.1 x.2)
def Z8f.cok (k:Nat):=cX (cC (Zbl.ok k) (cC (slices_Clone_string.ok k) (cC (Zgn.ok k) cN)))
def Z8f.l0.s (k:Nat):Summ:=lp 30 { tmps:=[(0,.one (.bor .str)),(5,.one (.own 2)),(11,.one (.own 3)),(12,.one (.v (.int .i64))),(13,.one (.v (.int .i64)))],slots:=[(2,.arr false 9 .str),(3,.arr false 99 T99)],nb:=4 } [(.exit 0,{ tmps:=[(5,.one (.own 4))],slots:=[(4,.arr false 9 .str)],nb:=5 })] (fun j x=>Z8f.l0 k j x.1 x.2.1 x.2.2.1 x.2.2.2.1 x.2.2.2.2) k
def Z8f.l0.ok (k:Nat):=(lA (Z8f.cok k):Zl Yb _ (.loop (cO (cO (cR (cL (cR (cR (cB Tryz.f131)))))))) (Z8f.l0.s k))
theorem Z8f.ok (k:Nat):Ze Yb 131 (Z8f.con k):=fP (.two .auto (.two .auto (.two (.two .auto (.one (.sum (Z8f.l0.s k)))) .auto))) (Z8f.cok k) Tryz.func131 (sC (Z8f.l0.ok k) sN)
def Z1p (a1:Zge) (a2:Int):Option (Bool):=some ((a1.1==2)&&(a1.2.2.1==a2))
def Z1p.con (k:Nat):Con:=Sig.con { ps:=[.val true Zlc (ros Zlc),.rptr (.int .i64)],rs:=[.val false [.v .bool]],ntmps:=13 } (fun x=>Z1p x.1 x.2)
theorem Z1p.ok (k:Nat):Ze Yb 134 (Z1p.con k):=fA (cX cN) Tryz.func134
def Zse.l0:Nat→List Zge→Int→Int→Int→Option (Int ⊕ (Int×Int))
 | 0,_,_,_,_=>none
 | j+1,a1,a2,a3,a4=>bif decide (a3<a2) then Ya (at? a1 a3) fun v5=>Ya (Z1p v5 a4) fun v6=>bif v6 then some (.inr (a3,a4)) else Zse.l0 j a1 a2 (Yc .i64 (a3+1)) a4 else some (.inl a4)
def Zse (k:Nat) (a1:List Zge) (a2:Int):Option (Int×Int):=Ya (Zse.l0 k a1 ((a1.length):Int) 0 a2) fun
  | .inl y3=>some ((-1),y3)
  | .inr y4=>some (y4.1,y4.2)
def Zse.con (k:Nat):Con:=Sig.con { ps:=[.val false (.sl Zlc) (ros (.sl Zlc)),.fn 134 [(2,(.int .i64),(Zcc (.int .i64)))]],rs:=[.val false [.v (.int .i64)]],ntmps:=19 } (fun x=>Zse k x.1 x.2)
def Zse.cok (k:Nat):=cX (cC (Z1p.ok k) cN)
def Zse.l0.s (k:Nat):Summ:=lp 19 { tmps:=[(0,.one (.bor Zlc)),(1,.fn 134 [.ptr 0 0]),(7,.one (.v (.int .i64))),(8,.one (.v (.int .i64)))],slots:=[(0,.box 2 [.v (.int .i64)])],nb:=1 } [(.exit 0,{ tmps:=[],slots:=[(0,.box 2 [.v (.int .i64)])],nb:=1 }),(.ret,{ tmps:=[(4,.one (.v (.int .i64)))],slots:=[(0,.box 2 [.v (.int .i64)])],nb:=1 })] (fun j x=>Zse.l0 j x.1 x.2.1 x.2.2.1 x.2.2.2) k
def Zse.l0.ok (k:Nat):=(lA (Zse.cok k):Zl Yb _ (.loop (cO (cO (cR (cL (cR (cB Tryz.f188))))))) (Zse.l0.s k))
theorem Zse.ok (k:Nat):Ze Yb 188 (Zse.con k):=fP (.two .auto (.two (.two .auto (.one (.sum (Zse.l0.s k)))) .auto)) (Zse.cok k) Tryz.func188 (sC (Zse.l0.ok k) sN)
def Z1q (k:Nat) (a1:List Zge) (a2:Int):Option (Bool×Int):=Ya (Zse k a1 a2) fun v3=>some (decide (0≤v3.1),v3.2)
def Z1q.con (k:Nat):Con:=Sig.con { ps:=[.val false (.sl Zlc) (ros (.sl Zlc)),.fn 134 [(2,(.int .i64),(Zcc (.int .i64)))]],rs:=[.val false [.v .bool]],ntmps:=9 } (fun x=>Z1q k x.1 x.2)
theorem Z1q.ok (k:Nat):Ze Yb 133 (Z1q.con k):=fA (cX (cC (Zse.ok k) cN)) Tryz.func133
def Z0p (k:Nat) (a1:Int) (a2:List Zge) (a3:G49):Option (Bool):=Ya (Z2b a2 0 a3.2.2.2.2.1) fun v4=>Ya (Z1q k v4 a1) fun v5=>some v5.1
def Z0p.con (k:Nat):Con:=Sig.con { ps:=[.val false (.int .i64) (ros (.int .i64)),.rptr (.sl Zlc),.rptr T49],rs:=[.val false [.v .bool]],ntmps:=11 } (fun x=>Z0p k x.1 x.2.1 x.2.2)
theorem Z0p.ok (k:Nat):Ze Yb 132 (Z0p.con k):=fA (cX (cC (Z1q.ok k) cN)) Tryz.func132
def Zie.l0:Nat→Int→List Zge→Int→Int→Option (Unit ⊕ Int)
 | 0,_,_,_,_=>none
 | j+1,a1,a2,a3,a4=>bif decide (a4<a3) then Ya (at? a2 a4) fun v5=>bif (v5.1==1)&&(v5.2.2.1==a1) then some (.inr (v5.2.2.2)) else Zie.l0 j a1 a2 a3 (Yc .i64 (a4+1)) else some (.inl ())
def Zie (k:Nat) (a1:List Zge) (a2:Int) (a3:Int):Option (Int):=Ya (Z2b a1 0 a2) fun v4=>Ya (Zie.l0 k a3 v4 ((v4.length):Int) 0) fun
  | .inl y5=>some (-1)
  | .inr y6=>some y6
def Zie.con (k:Nat):Con:=Sig.con { ps:=[.val false (.sl Zlc) (ros (.sl Zlc)),.val false (.int .i64) (ros (.int .i64)),.val false (.int .i64) (ros (.int .i64))],rs:=[.val false [.v (.int .i64)]],ntmps:=29 } (fun x=>Zie k x.1 x.2.1 x.2.2)
def Zie.cok (k:Nat):=cX cN
def Zie.l0.s (k:Nat):Summ:=lp 29 { tmps:=[(2,.one (.v (.int .i64))),(11,.one (.bor Zlc)),(12,.one (.v (.int .i64))),(13,.one (.v (.int .i64)))],slots:=[],nb:=0 } [(.exit 0,{ tmps:=[],slots:=[],nb:=0 }),(.ret,{ tmps:=[(6,.one (.v (.int .i64)))],slots:=[],nb:=0 })] (fun j x=>Zie.l0 j x.1 x.2.1 x.2.2.1 x.2.2.2) k
def Zie.l0.ok (k:Nat):=(lA (Zie.cok k):Zl Yb _ (.loop (cO (cO (cR (cL (cR (cB Tryz.f192))))))) (Zie.l0.s k))
theorem Zie.ok (k:Nat):Ze Yb 192 (Zie.con k):=fP (.two .auto (.two (.two .auto (.one (.sum (Zie.l0.s k)))) .auto)) (Zie.cok k) Tryz.func192 (sC (Zie.l0.ok k) sN)
def Z3g.j0 (k:Nat) (a1:List Zge) (a2:Int) (a3:List Str) (a4:List Zx) (a5:Int) (a6:Int) (a7:Int) (a8:Int) (a9:Int) (a10:Str) (a11:List Int) (a12:List Int) (a13:Str) (a14:Int) (a15:Int) (a16:Int) (a17:Str):Option ((Str×Int×Int×Int×Str)):=bif (a14==3)||(a14==4) then Ya (Zyh k (a3,a4) (Yc .i64 (3+a16))) fun v18=>Ya (Zie k a1 a9 a16) fun v19=>bif decide (0≤v19) then Ya (at? a12 v19) fun v20=>Ya (Zpj k (a2,(a3,a4)) v20) fun v21=>some (v21,a14,a15,a16,a17) else some (v18,a14,a15,a16,a17) else some (a13,a14,a15,a16,a17)
def Z3g (k:Nat) (a1:G29) (a2:G49) (a3:List Zge) (a4:G99):Option (Str):=Ya (Z3g.j0 k a3 a1.1 a1.2.1 a1.2.2 a2.1 a2.2.1 a2.2.2.1 a2.2.2.2.1 a2.2.2.2.2.1 a2.2.2.2.2.2.1 a2.2.2.2.2.2.2.1 a2.2.2.2.2.2.2.2 [] a4.1 a4.2.1 a4.2.2.1 a4.2.2.2) fun y5=>bif (y5.2.1==4)&&(((y5.1.length):Int) != 8) then some ([]) else Ya (Zgn k y5.2 y5.1) fun v6=>some v6
def Z3g.con (k:Nat):Con:=Sig.con { ps:=[.val true T29 (ros T29),.val true T49 (ros T49),.val false (.sl Zlc) (ros (.sl Zlc)),.val true T99 (ros T99)],rs:=[.val false [.v .str]],ntmps:=51 } (fun x=>Z3g k x.1 x.2.1 x.2.2.1 x.2.2.2)
def Z3g.cok (k:Nat):=cXr true false (cC (Zpj.ok k) (cC (Zyh.ok k) (cC (Zgn.ok k) (cC (Zie.ok k) cN))))
def Z3g.j0.s (k:Nat):Summ:=lq 51 { tmps:=[(2,.one (.bor Zlc)),(4,.eptr [.v (.int .i64),.bor .str,.bor Zv]),(5,.eptr [.v (.int .i64),.v (.int .i64),.v (.int .i64),.v (.int .i64),.v (.int .i64),.v .str,.bor (.int .i64),.bor (.int .i64)]),(7,.one (.ptr 0 0)),(9,.one (.v .str))],slots:=[(0,.box 99 [.v (.int .i64),.v (.int .i64),.v (.int .i64),.v .str])],nb:=1 } [(.nrm,{ tmps:=[(9,.one (.v .str))],slots:=[(0,.box 99 [.v (.int .i64),.v (.int .i64),.v (.int .i64),.v .str])],nb:=1 })] (fun x=>Z3g.j0 k x.1 x.2.1 x.2.2.1 x.2.2.2.1 x.2.2.2.2.1 x.2.2.2.2.2.1 x.2.2.2.2.2.2.1 x.2.2.2.2.2.2.2.1 x.2.2.2.2.2.2.2.2.1 x.2.2.2.2.2.2.2.2.2.1 x.2.2.2.2.2.2.2.2.2.2.1 x.2.2.2.2.2.2.2.2.2.2.2.1 x.2.2.2.2.2.2.2.2.2.2.2.2.1 x.2.2.2.2.2.2.2.2.2.2.2.2.2.1 x.2.2.2.2.2.2.2.2.2.2.2.2.2.2.1 x.2.2.2.2.2.2.2.2.2.2.2.2.2.2.2.1 x.2.2.2.2.2.2.2.2.2.2.2.2.2.2.2.2)
def Z3g.j0.ok (k:Nat):=(jA (Z3g.cok k):Zl Yb _ (cL (cR (cR (cB Tryz.f136)))) (Z3g.j0.s k))
theorem Z3g.ok (k:Nat):Ze Yb 136 (Z3g.con k):=fP (.two .auto (.two .auto (.two (.sum (Z3g.j0.s k)) .auto))) (Z3g.cok k) Tryz.func136 (sC (Z3g.j0.ok k) sN)
def Zbf.l0 (k:Nat):Nat→Int→List Str→List Zx→Int→Int→Int→Int→Int→Int→Int→Str→List Str→List G99→List Int→List Int→List Zge→Option ((Int×Int×Int×Int×Int×Str×List Str×List Int×List Int×List Zge))
 | 0,_,_,_,_,_,_,_,_,_,_,_,_,_,_,_,_=>none
 | j+1,a1,a2,a3,a4,a5,a6,a7,a8,a9,a10,a11,a12,a13,a14,a15,a16=>bif decide (a5<a4) then Ya (at? a13 a5) fun v17=>Ya (at? a13 a5) fun v18=>let e19:=(a6,(a7,(a8,(a9,(a10,(a11,(a14,a15)))))));Ya (Z0p k v18.2.1 a16 e19) fun v20=>let e21:=Yc .i64 (a5+1);bif !v20 then Ya (Z3g k (a1,(a2,a3)) e19 a16 v18) fun v22=>let e23:=at? a12 v18.2.1;Ya (e23) fun v24=>Ya (e23) fun v25=>Zbf.l0 k j a1 a2 a3 a4 e21 a6 a7 a8 a9 a10 a11 (Yu a12 (Yk v18.2.1) v22) a13 a14 a15 a16 else Zbf.l0 k j a1 a2 a3 a4 e21 a6 a7 a8 a9 a10 a11 a12 a13 a14 a15 a16 else some (a6,a7,a8,a9,a10,a11,a12,a14,a15,a16)
def Zbf (k:Nat) (a1:G29):Option (List Str):=Ya (Zag k a1) fun v2=>Ya (Zoe k a1) fun v3=>Ya (Zpe k a1 (v2.1,(v2.2.1,(v2.2.2.1,(v2.2.2.2.1,(v2.2.2.2.2.1,(v2.2.2.2.2.2.1,(v2.2.2.2.2.2.2.1,v2.2.2.2.2.2.2.2.1)))))))) fun v4=>bif v2.1==4 then Ya (Z8f k v3 v4) fun v5=>some v5 else bif v2.1==5 then Ya (Z6b k v4) fun v6=>Ya (Zbl k v4) fun v7=>Ya (Zbf.l0 k k a1.1 a1.2.1 a1.2.2 ((v7.length):Int) 0 v2.1 v2.2.1 v2.2.2.1 v2.2.2.2.1 v2.2.2.2.2.1 v2.2.2.2.2.2.1 v3 v7 v2.2.2.2.2.2.2.1 v2.2.2.2.2.2.2.2.1 v6) fun y8=>some y8.2.2.2.2.2.2.1 else some v3
def Zbf.con (k:Nat):Con:=Sig.con { ps:=[.val true T29 (ros T29)],rs:=[.val false [.own 9 .str]],ntmps:=56 } (fun x=>Zbf k x)
def Zbf.cok (k:Nat):=cXr true false (cC (Zag.ok k) (cC (Zpe.ok k) (cC (Zoe.ok k) (cC (Z6b.ok k) (cC (Z8f.ok k) (cC (Z0p.ok k) (cC (Zbl.ok k) (cC (Z3g.ok k) cN))))))))
def Zbf.l0.s (k:Nat):Summ:=lp 56 { tmps:=[(1,.eptr [.v (.int .i64),.bor .str,.bor Zv]),(3,.one (.ptr 2 0)),(5,.one (.own 8)),(7,.one (.ptr 6 0)),(8,.fn 132 [.ptr 6 0,.ptr 2 0]),(34,.one (.own 9)),(35,.one (.v (.int .i64))),(36,.one (.v (.int .i64)))],slots:=[(2,.box 49 [.v (.int .i64),.v (.int .i64),.v (.int .i64),.v (.int .i64),.v (.int .i64),.v .str,.own 10,.own 11]),(6,.box 146 [.own 12]),(8,.arr false 9 .str),(9,.arr false 99 T99),(10,.arr false 2 (.int .i64)),(11,.arr false 2 (.int .i64)),(12,.arr false 150 Zlc)],nb:=13 } [(.exit 1,{ tmps:=[(5,.one (.own 13))],slots:=[(2,.box 49 [.v (.int .i64),.v (.int .i64),.v (.int .i64),.v (.int .i64),.v (.int .i64),.v .str,.own 14,.own 15]),(6,.box 146 [.own 16]),(13,.arr false 9 .str),(14,.arr false 2 (.int .i64)),(15,.arr false 2 (.int .i64)),(16,.arr false 150 Zlc)],nb:=17 })] (fun j x=>Zbf.l0 k j x.1 x.2.1 x.2.2.1 x.2.2.2.1 x.2.2.2.2.1 x.2.2.2.2.2.1 x.2.2.2.2.2.2.1 x.2.2.2.2.2.2.2.1 x.2.2.2.2.2.2.2.2.1 x.2.2.2.2.2.2.2.2.2.1 x.2.2.2.2.2.2.2.2.2.2.1 x.2.2.2.2.2.2.2.2.2.2.2.1 x.2.2.2.2.2.2.2.2.2.2.2.2.1 x.2.2.2.2.2.2.2.2.2.2.2.2.2.1 x.2.2.2.2.2.2.2.2.2.2.2.2.2.2.1 x.2.2.2.2.2.2.2.2.2.2.2.2.2.2.2) k
def Zbf.l0.ok (k:Nat):=(lA (Zbf.cok k):Zl Yb _ (.loop (cO (cO (cR (cR (cR (cL (cR (cR (cR (cO (cR (cL (cR (cR (cR (cB Tryz.f76))))))))))))))))) (Zbf.l0.s k))
theorem Zbf.ok (k:Nat):Ze Yb 76 (Zbf.con k):=fP (.two .auto (.two .auto (.two .auto (.two (.two .auto (.one (.two .auto (.two .auto (.two .auto (.two (.two .auto (.two .auto (.two .auto (.one (.sum (Zbf.l0.s k)))))) .auto)))))) .auto)))) (Zbf.cok k) Tryz.func76 (sC (Zbf.l0.ok k) sN)
def Zjo (k:Nat) (a1:G29):Option (List Str×Int):=Ya (Zkk k a1) fun v2=>bif !v2 then some ([],1) else Ya (Zbf k a1) fun v3=>some (v3,0)
def Zjo.con (k:Nat):Con:=Sig.con { ps:=[.val true T29 (ros T29)],rs:=[.val true [.own 9 .str,.v (.int .i64)]],ntmps:=10 } (fun x=>Zjo k x)
theorem Zjo.ok (k:Nat):Ze Yb 33 (Zjo.con k):=fA (cXr true false (cC (Zkk.ok k) (cC (Zbf.ok k) cN))) Tryz.func33
def Zld.j0 (k:Nat) (a1:List Int) (a2:Int) (a3:Int) (a4:Str) (a5:Str):Option (Unit ⊕ Bool):=bif !(a5==[]) then Ya (Zmo a1 0 ((a5.length):Int)) fun v6=>Ya (Z2l k a5 a2) fun v7=>bif !((v7.1==false)&&((v7.2.1==a3)&&(v7.2.2==a4))) then some (.inr false) else Ya (Z2l k a5 (Yc .i64 (a2+1))) fun v8=>bif !v8.1 then some (.inr false) else Ya (Z2b a5 0 v6) fun v9=>Ya (Z2l k v9 a2) fun v10=>bif !v10.1 then some (.inr false) else some (.inl ()) else some (.inl ())
def Zld (k:Nat) (a1:List Int) (a2:List Int):Option (Bool):=bif (decide (1048576<((a1.length):Int)))||(decide (1048576<((a2.length):Int))) then some true else Ya (Zyo k a1) fun v3=>Ya (Zdn k v3) fun v4=>Ya (Zye k v3) fun v5=>Ya (Zzo k a2) fun v6=>Ya (Z8q k a2) fun v7=>Ya (Z6q k a1) fun v8=>Ya (Z2p k v8.1 v8.2.1 v8.2.2) fun v9=>Ya (Z7q k a2) fun v10=>Ya (Zho k v6) fun v11=>Ya (Z0o k v6) fun v12=>bif v4.2.2.2 != v5.2.2.2 then some false else let e13:=(v4.1,(v4.2.1,v4.2.2.1));Ya (Zkq k e13 (v5.1,(v5.2.1,v5.2.2.1))) fun v14=>bif !v14 then some false else Ya (Z3l k v6) fun v15=>Ya (Z2o k v6) fun v16=>Ya (Zlq k ((v15.1,(v15.2.1,(v15.2.2.1,(v15.2.2.2.1,(v15.2.2.2.2.1,(v15.2.2.2.2.2.1,(v15.2.2.2.2.2.2.1,v15.2.2.2.2.2.2.2.1))))))),v15.2.2.2.2.2.2.2.2) ((v16.1,(v16.2.1,(v16.2.2.1,(v16.2.2.2.1,(v16.2.2.2.2.1,(v16.2.2.2.2.2.1,(v16.2.2.2.2.2.2.1,v16.2.2.2.2.2.2.2.1))))))),v16.2.2.2.2.2.2.2.2)) fun v17=>bif !v17 then some false else Ya (Z6k k v6) fun v18=>Ya (Zwo k v6) fun v19=>Ya (Zjq k v18 v19) fun v20=>bif !v20 then some false else Ya (Zcg k v11.1 v12.1) fun v21=>bif !v21 then some false else bif v11.2 != v12.2 then some false else let e22:=(v7.1,(v7.2.1,v7.2.2.1));Ya (Zfn k e22 v7.2.2.2) fun v23=>Ya (Zvn k e22 v7.2.2.2) fun v24=>bif !(v23==v24) then some false else Ya (Z2h k v8.1 v8.2.1 v8.2.2) fun v25=>bif !(v9==v25) then some false else Ya (Z2l k v10.1 v10.2) fun v26=>Ya (Znl k v10.1 v10.2) fun v27=>bif !((v26.1==v27.1)&&((v26.2.1==v27.2.1)&&(v26.2.2==v27.2.2))) then some false else Ya (Zio k v6) fun v28=>Ya (Z1o k v6) fun v29=>bif !(v28==v29) then some false else Ya (Zen k v6) fun v30=>Ya (Zyj k v6) fun v31=>bif !(v30==v31) then some false else Ya (Zld.j0 k a2 v8.1 v8.2.1 v8.2.2 v9) fun
  | .inl y32=>bif v4.2.2.2 != 0 then some true else Ya (Zen k e13) fun v33=>bif v33 then Ya (Z3l k e13) fun v34=>bif v34.1==1 then Ya (Z6k k e13) fun v35=>Ya (Z0d k v35.1 v3) fun v36=>bif v36 then Ya (Zjo k e13) fun v37=>Ya (Z0d k v37.1 v3) fun v38=>some v38 else some false else some false else some false
  | .inr y39=>some y39
def Zld.sig:Sig:={ ps:=[.val false (.sl (.int .u8)) (ros (.sl (.int .u8))),.val false (.sl (.int .u8)) (ros (.sl (.int .u8)))],rs:=[.val false [.v .bool]],ntmps:=204 }
def Zld.con (k:Nat):Con:=Zld.sig.con (fun x=>Zld k x.1 x.2)
def Zld.cok (k:Nat):=cX (cC (Zyo.ok k) (cC (Zdn.ok k) (cC (Zye.ok k) (cC (Zzo.ok k) (cC (Z8q.ok k) (cC (Z6q.ok k) (cC (Z2p.ok k) (cC (Z7q.ok k) (cC (Zho.ok k) (cC (Z0o.ok k) (cC (Zkq.ok k) (cC (Zlq.ok k) (cC (Z3l.ok k) (cC (Z2o.ok k) (cC (Zjq.ok k) (cC (Z6k.ok k) (cC (Zwo.ok k) (cC (Zcg.ok k) (cC (Zfn.ok k) (cC (Zvn.ok k) (cC (Z2h.ok k) (cC (Z2l.ok k) (cC (Znl.ok k) (cC (Zio.ok k) (cC (Z1o.ok k) (cC (Zen.ok k) (cC (Zyj.ok k) (cC (Zmo.ok k) (cC (Z0d.ok k) (cC (Zjo.ok k) cN))))))))))))))))))))))))))))))
def Zld.j0.s (k:Nat):Summ:=lq 204 { tmps:=[(1,.one (.bor (.int .u8))),(11,.one (.v (.int .i64))),(12,.one (.v (.int .i64))),(13,.one (.v .str)),(14,.one (.v .str))],slots:=[],nb:=23 } [(.nrm,{ tmps:=[],slots:=[],nb:=23 }),(.ret,{ tmps:=[(4,.one (.v .bool))],slots:=[],nb:=23 })] (fun x=>Zld.j0 k x.1 x.2.1 x.2.2.1 x.2.2.2.1 x.2.2.2.2)
def Zld.j0.ok (k:Nat):=(jA (Zld.cok k):Zl Yb _ (cL (cR (cR (cR (cR (cR (cR (cR (cR (cR (cR (cR (cB Tryz.f3))))))))))))) (Zld.j0.s k))
theorem Zld.ok (k:Nat):Ze Yb 3 (Zld.con k):=fP (.two .auto (.two .auto (.two .auto (.two .auto (.two .auto (.two .auto (.two .auto (.two .auto (.two .auto (.two .auto (.two .auto (.two (.sum (Zld.j0.s k)) .auto)))))))))))) (Zld.cok k) Tryz.func3 (sC (Zld.j0.ok k) sN)
end Go.Proofs.Qz
namespace Go.Proofs.Qz
open Go
set_option linter.unusedVariables false
def Zc (p:Nat→Prop):Prop:=∃K,∀k,K≤k→p k
theorem Zc.of {p:Nat→Prop} (h:∀k,p k):Zc p:=⟨0,fun k _=>h k⟩
theorem Zc.ge {p:Nat→Prop} (K:Nat) (h:∀k,K≤k→p k):Zc p:=⟨K,h⟩
theorem Zc.mono {p q:Nat→Prop} (h:Zc p) (f:∀k,p k→q k):Zc q:=by
 obtain ⟨K,h⟩:=h
 exact ⟨K,fun k hk=>f k (h k hk)⟩
theorem Zc.and {p q:Nat→Prop} (h:Zc p) (g:Zc q):Zc fun k=>p k∧q k:=by
 obtain ⟨K,h⟩:=h
 obtain ⟨J,g⟩:=g
 exact ⟨K+J,fun k hk=>⟨h k (by omega),g k (by omega)⟩⟩
theorem Zc.ex {p:Nat→Prop} (h:Zc p):∃k,p k:=by
 obtain ⟨K,h⟩:=h
 exact ⟨K,h K (Yj K)⟩
theorem Zc.all {n:Nat} {p:Nat→Nat→Prop}:(∀i,i<n→Zc (p i))→Zc fun k=>∀i,i<n→p i k:=by
 induction n with
 | zero=>exact fun _=>⟨0,fun k _ i hi=>absurd hi (Ym i)⟩
 | succ n ih=>
  intro h;refine ((ih fun i hi=>h i (Nat.lt_succ_of_lt hi)).and (h n (Nat.lt_succ_self n))).mono fun k hk i hi=>?_
  rcases Nat.eq_or_lt_of_le (Nat.le_of_lt_succ hi) with rfl | hi
  ·exact hk.2
  ·exact hk.1 i hi
theorem Zc.two {p q r:Nat→Prop} (h:Zc p) (g:Zc q) (f:∀k,p k→q k→r k):Zc r:=(h.and g).mono fun k hk=>f k hk.1 hk.2
theorem Z4y {R:Type} (L:Nat→Nat→Nat→Option R) (n:Nat) (r:R) (hs:Zc fun k=>∀i,i<n→∀j,L k (j+1) i=L k j (i+1)) (hl:Zc fun k=>∀j,L k (j+1) n=some r):Zc fun k=>L k k 0=some r:=by
 obtain ⟨K,hs⟩:=hs
 obtain ⟨J,hl⟩:=hl
 refine ⟨K+J+n+1,fun k hk=>?_⟩
 have hs:=hs k (by omega)
 have hl:=hl k (by omega)
 have key:∀d i j,i+d=n→d<j→L k j i=some r:=by
  intro d
  induction d with
  | zero=>
   intro i j hi hj;obtain ⟨m,rfl⟩:∃m,j=m+1:=⟨j-1,by omega⟩;obtain rfl:i=n:=by omega
   exact hl m
  | succ d ih=>
   intro i j hi hj;obtain ⟨m,rfl⟩:∃m,j=m+1:=⟨j-1,by omega⟩;rw [hs i (by omega) m];exact ih (i+1) m (by omega) (by omega)
 exact key n 0 k (by omega) (by omega)
theorem Zrc {R:Type} (L:Nat→Nat→Option R) (n:Nat) (r:R) (hs:∀i,i<n→∀j,L (j+1) i=L j (i+1)) (hl:∀j,L (j+1) n=some r):∀k,n<k→L k 0=some r:=by
 have key:∀d i j,i+d=n→d<j→L j i=some r:=by
  intro d
  induction d with
  | zero=>
   intro i j hi hj;obtain ⟨m,rfl⟩:∃m,j=m+1:=⟨j-1,by omega⟩;obtain rfl:i=n:=by omega
   exact hl m
  | succ d ih=>
   intro i j hi hj;obtain ⟨m,rfl⟩:∃m,j=m+1:=⟨j-1,by omega⟩;rw [hs i (by omega) m];exact ih (i+1) m (by omega) (by omega)
 exact fun k hk=>key n 0 k (by omega) hk
theorem bnd {α β:Type} {f:Nat→Option α} {g:Nat→α→Option β} {a:α} {b:β} (h:Zc fun k=>f k=some a) (k:Zc fun k=>g k a=some b):Zc fun k=>(f k).bind (g k)=some b:=
 h.two k fun k h1 h2=>by rw [h1];exact h2
theorem Z2fb {α β:Type} {x:Option α} {f:α→Option β} (hx:∃v,x=some v) (hf:∀v,∃w,f v=some w):∃w,x.bind f=some w:=by
 obtain ⟨v,rfl⟩:=hx
 exact hf v
theorem w64 {n:Int} (h0:-9223372036854775808≤n) (h1:n<9223372036854775808):Yc .i64 n=n:=by
 simp [Yc,Yr,Yx]
 omega
theorem wn {n:Nat} (h:n<9223372036854775808):Yc .i64 (n:Int)=n:=w64 (by omega) (by omega)
theorem Zs {n:Nat} (h:n<9223372036854775807):Yc .i64 ((n:Int)+1)=((n+1:Nat):Int):=by rw [w64] <;> omega
theorem Zh {α:Type} {l:List α} {i:Nat} (h:i<l.length):at? l (i:Int)=some l[i]:=by
 unfold at?
 rw [Xc (by omega),Ye,Ys h]
theorem Z6 {α:Type} {n:Nat} {a b:List α} (h:(a.length+b.length)*n≤140737488355328):Zw n a b=some (a++b):=Xc h
theorem Zwd {a b:Str} (h:a.length+b.length≤9223372036854775807):Z2c a b=some (a++b):=Xc h
theorem Zpq {α:Type} {b n:Nat} {x:α} (h:n*b≤140737488355328):Z9g b (n:Int) (n:Int) x=some (Yl n x):=by
 unfold Z9g
 rw [Xc ⟨by omega,Int.le_refl _,by rw [Ye];exact h⟩,Ye]
theorem Zhi {α:Type} {l:List α} {i j:Nat} (h:i≤j) (k:j≤l.length):Z2b l (i:Int) (j:Int)=some ((l.take j).drop i):=by
 unfold Z2b
 rw [Xc ⟨by omega,by omega,by omega⟩,Ye,Ye]
theorem Zk6 {n b:Nat} (h:n*b≤140737488355328):Z7w n b=some ():=Xc h
theorem Znk {b:Int} (h:b≠0):nz? b=some ():=Xd h
theorem Zdc {b:Int} (h:0≤b):Zbc b=some ():=Xd (by omega)
theorem Zfgb {α β:Type} {l:List α} (f:α→β) {i:Nat} (h:i<l.length):(l.take (i+1)).map f=(l.take i).map f++[f l[i]]:=by
 rw [Yla,Ys h,List.map_append]
 rfl
theorem Zjj {α:Type} {l:List α} {i:Nat} (h:i<l.length):l.take (i+1)=l.take i++[l[i]]:=by
 rw [Yla,Ys h]
 rfl
def Zgm {α S R:Type} (f:S→α→S ⊕ R) (g:S→R):List α→S→R
 | [],s=>g s
 | x::l,s=>match f s x with
  | .inl s'=>Zgm f g l s'
  | .inr r=>r
theorem Zgpb {α S R:Type} {f:S→α→S ⊕ R} {g:S→R} {x:α} {l:List α} {s s':S} (h:f s x = .inl s'):Zgm f g (x::l) s=Zgm f g l s':=by
 have e:Zgm f g (x::l) s=match f s x with | .inl s'=>Zgm f g l s' | .inr r=>r:=rfl
 rw [e,h]
theorem Zcnb {α S R:Type} (L:Nat→S→Int→Option R) (l:List α) (f:S→α→S ⊕ R) (g:S→R) (I:Nat→S→Prop)
  (hs:∀(i:Nat) (h:i<l.length) (s:S),I i s→(∃s',f s l[i] = .inl s'∧I (i+1) s'∧∀j,L (j+1) s (i:Int)=L j s' ((i+1:Nat):Int))∨∃r,f s l[i] = .inr r∧∀j,L (j+1) s (i:Int)=some r)
  (he:∀(s:S),I l.length s→∀j,L (j+1) s (l.length:Int)=some (g s)):∀(d i:Nat) (s:S),i+d=l.length→I i s→∀j,d<j→L j s (i:Int)=some (Zgm f g (l.drop i) s):=by
 intro d
 induction d with
 | zero=>
  intro i s hi hI j hj;obtain ⟨j,rfl⟩:∃q,j=q+1:=⟨j-1,by omega⟩;obtain rfl:i=l.length:=by omega
  rw [Y5,he s hI];rfl
 | succ d ih=>
  intro i s hi hI j hj;obtain ⟨j,rfl⟩:∃q,j=q+1:=⟨j-1,by omega⟩;have hlt:i<l.length:=by omega
  rw [Yo hlt];rcases hs i hlt s hI with ⟨s',h1,h2,h3⟩ | ⟨r,h1,h3⟩
  ·rw [h3 j]
   show _=some (match f s l[i] with | .inl s'=>Zgm f g (l.drop (i+1)) s' | .inr r=>r);rw [h1];exact ih (i+1) s' (by omega) h2 j (by omega)
  ·rw [h3 j]
   show _=some (match f s l[i] with | .inl s'=>Zgm f g (l.drop (i+1)) s' | .inr r=>r);rw [h1]
theorem Zbnb {α S R:Type} (L:Nat→S→Int→Option R) (l:List α) (f:S→α→S ⊕ R) (g:S→R) (I:Nat→S→Prop) (hs:∀(i:Nat) (h:i<l.length) (s:S),I i s→(∃s',f s l[i] = .inl s'∧I (i+1) s'∧∀j,L (j+1) s (i:Int)=L j s' ((i+1:Nat):Int))∨∃r,f s l[i] = .inr r∧∀j,L (j+1) s (i:Int)=some r) (he:∀(s:S),I l.length s→∀j,L (j+1) s (l.length:Int)=some (g s)) {s:S} (hI:I 0 s) {k:Nat} (hk:l.length<k):L k s 0=some (Zgm f g l s):=Zcnb L l f g I hs he l.length 0 s (Yn _) hI k hk
def Zmb {α:Type} (p:α→Bool):List α→Nat→Option Nat
 | [],_=>none
 | x::l,i=>if p x then some i else Zmb p l (i+1)
theorem Zii {α R:Type} (L:Nat→Int→Option R) (l:List α) (p:α→Bool) (a:R) (b:Nat→R)
  (hs:∀(i:Nat) (h:i<l.length),(p l[i]=false→∀j,L (j+1) (i:Int)=L j ((i+1:Nat):Int))∧(p l[i]=true→∀j,L (j+1) (i:Int)=some (b i)))
  (he:∀j,L (j+1) (l.length:Int)=some a) {k:Nat} (hk:l.length<k):L k 0=some (match Zmb p l 0 with | some i=>b i | none=>a):=by
 have key:∀(d i:Nat),i+d=l.length→∀j,d<j→L j (i:Int)=some (match Zmb p (l.drop i) i with | some i=>b i | none=>a):=by
  intro d
  induction d with
  | zero=>
   intro i hi j hj;obtain ⟨j,rfl⟩:∃q,j=q+1:=⟨j-1,by omega⟩;obtain rfl:i=l.length:=by omega
   rw [Y5,he];rfl
  | succ d ih=>
   intro i hi j hj;obtain ⟨j,rfl⟩:∃q,j=q+1:=⟨j-1,by omega⟩;have hlt:i<l.length:=by omega
   rw [Yo hlt];obtain ⟨h1,h2⟩:=hs i hlt;cases hp:p l[i] with
   | true=>rw [h2 hp j];simp [Zmb,hp]
   | false=>
    rw [h1 hp j,ih (i+1) (by omega) j (by omega)];simp [Zmb,hp]
 have:=key l.length 0 (Yn _) k hk
 rwa [Yga] at this
theorem Zdk {α:Type} {p:α→Bool}:∀{l:List α} {n i:Nat},Zmb p l n=some i→n≤i∧∃h:i-n<l.length,p (l[i-n])=true∧∀j,(hj:j<i-n)→p (l[j]'(by omega))=false
 | [],_,_,h=>by cases h
 | x::l,n,i,h=>by
  unfold Zmb at h;split at h
  ·rename_i hp
   cases h;refine ⟨Yj _,by simp,?_,fun j hj=>by omega⟩;simpa using hp
  ·rename_i hp
   obtain ⟨h1,h2,h3,h4⟩:=Zdk h;refine ⟨by omega,by simp only [Yz];omega,?_,fun j hj=>?_⟩
   ·have e:i-n=(i-(n+1))+1:=by omega
    simpa [e] using h3
   ·cases j with
    | zero=>simpa using hp
    | succ j=>simpa using h4 j (by omega)
theorem Zrp {α:Type} {p:α→Bool}:∀{l:List α} {n:Nat},Zmb p l n=none ↔ ∀x∈l,p x=false
 | [],n=>by simp [Zmb]
 | x::l,n=>by
  unfold Zmb;split
  ·rename_i hp
   simp [hp]
  ·rename_i hp
   rw [Zrp];simp at hp;simp [hp]
theorem Zpt {α:Type} {p:α→Bool} {l:List α} {n:Nat}:(Zmb p l n).isSome=l.any p:=by
 cases h:Zmb p l n with
 | none=>
  have:=Zrp.1 h
  symm
  simp only [Option.isSome_none,List.any_eq_false];intro x hx;rw [this x hx];exact nofun
 | some i=>
  obtain ⟨_,h2,h3,_⟩:=Zdk h
  symm
  exact List.any_eq_true.2 ⟨_,Yha h2,h3⟩
theorem Z59 {α:Type} (L:Nat→Int→List α→Option (List α)) (l:List α) (z:α)
  (hs:∀(i:Nat) (h:i<l.length) (c:List α),c.length=l.length→∀j,L (j+1) (i:Int) c=L j ((i+1:Nat):Int) (c.set i l[i]))
  (he:∀(c:List α) j,L (j+1) (l.length:Int) c=some c) {k:Nat} (hk:l.length<k):L k 0 (Yl l.length z)=some l:=by
 have key:∀(d i:Nat),i+d=l.length→∀j,d<j→L j (i:Int) (l.take i++Yl (l.length-i) z)=some l:=by
  intro d
  induction d with
  | zero=>
   intro i hi j hj;obtain ⟨j,rfl⟩:∃q,j=q+1:=⟨j-1,by omega⟩;obtain rfl:i=l.length:=by omega
   rw [he,Yva,Yna];simp
  | succ d ih=>
   intro i hi j hj;obtain ⟨j,rfl⟩:∃q,j=q+1:=⟨j-1,by omega⟩;have hlt:i<l.length:=by omega
   rw [hs i hlt _ (by simp;omega)]
   have e:(l.take i++Yl (l.length-i) z).set i l[i]=l.take (i+1)++Yl (l.length-(i+1)) z:=by
    have hl:(l.take i).length=i:=by simp;omega
    rw [List.set_append_right _ _ (by omega),hl,Yva,show l.length-i=(l.length-(i+1))+1 by omega,List.replicate_succ,List.set_cons_zero,Zjj hlt,Yy];rfl
   rw [e];exact ih (i+1) (by omega) j (by omega)
 have:=key l.length 0 (Yn _) k hk
 simpa using this
theorem dlt {a b:Nat} (h:a<b):decide ((a:Int)<(b:Int))=true:=Xa (by omega)
theorem Z8 {a b:Nat} (h:b≤a):decide ((a:Int)<(b:Int))=false:=Xb (by omega)
theorem Za {α β:Type} {x:Option α} {f:α→Option β} {a:α} {b:Option β} (h:x=some a) (k:f a=b):x.bind f=b:=by rw [h];exact k
theorem Zr9 {α:Type} (L:Nat→Nat→Str→Int→Option Str) (l:List α) (f:α→Str) (B M:Nat) (hB:∀x∈l,(f x).length≤B)
  (hs:∀i,(h:i<l.length)→Zc fun k=>∀acc j,acc.length≤M→L k (j+1) acc (i:Int)=L k j (acc++f l[i]) ((i+1:Nat):Int))
  (he:∀k acc j,L k (j+1) acc (l.length:Int)=some acc) (acc:Str) (ha:acc.length+B*l.length≤M):Zc fun k=>L k k acc 0=some (acc++(l.map f).flatten):=by
 have hall:Zc fun k=>∀i,i<l.length→∀(h:i<l.length) acc j,acc.length≤M→L k (j+1) acc (i:Int)=L k j (acc++f l[i]) ((i+1:Nat):Int):=Zc.all fun i hi=>(hs i hi).mono fun k hk h=>hk
 obtain ⟨K,hK⟩:=hall
 refine Zc.ge (K+l.length+1) fun k hk=>?_
 have hK:=hK k (by omega)
 have key:∀(d i:Nat) (acc:Str),i+d=l.length→acc.length+B*d≤M→∀j,d<j→L k j acc (i:Int)=some (acc++((l.drop i).map f).flatten):=by
  intro d
  induction d with
  | zero=>
   intro i acc hi hacc j hj;obtain ⟨j,rfl⟩:∃q,j=q+1:=⟨j-1,by omega⟩;obtain rfl:i=l.length:=by omega
   rw [he,Y5];simp
  | succ d ih=>
   intro i acc hi hacc j hj;obtain ⟨j,rfl⟩:∃q,j=q+1:=⟨j-1,by omega⟩;have h:i<l.length:=by omega
   have hf:=hB _ (Yha h);rw [Nat.mul_succ] at hacc;rw [hK i h h acc j (by omega),ih (i+1) _ (by omega) (by rw [Yt];omega) j (by omega),Yo h,List.map_cons,List.flatten_cons,Yy]
 have:=key l.length 0 acc (Yn _) ha k (by omega)
 rwa [Yga] at this
theorem u8w (n:Int):Yc .u8 n=n%256:=by simp [Yc,Yr,Yx]
theorem Z0s (n:Int):Yc .u32 n=n%4294967296:=by simp [Yc,Yr,Yx]
theorem Zfh (n:Int):Yc .u64 n=n%18446744073709551616:=by simp [Yc,Yr,Yx]
theorem Zjp (a b:Nat) (ha:a<4294967296) (hb:b<4294967296):intBits .xor .u32 (a:Int) (b:Int)=((a ^^^ b:Nat):Int):=by
 have hx:a ^^^ b<2^32:=Ywa (by omega) (by omega)
 show Yc .u32 (((Yf 32 (a:Int)) ^^^ (Yf 32 (b:Int))).toNat:Int)=_
 rw [Yh,Yh,BitVec.toNat_xor,Yi,Yi,Z0s,Yg (show a<2^32 by omega),Yg (show b<2^32 by omega)]
 omega
theorem Z48 (a:Nat) (ha:a<4294967296):intBits .and .u32 (a:Int) 1=((a%2:Nat):Int):=by
 have h:a &&& 1=a%2:=Ypa a
 show Yc .u32 (((Yf 32 (a:Int)) &&& (Yf 32 ((1:Nat):Int))).toNat:Int)=_
 rw [Yh,Yh,Yca,Yi,Yi,Z0s,Yg (show a<2^32 by omega),Yg (show 1<2^32 by omega),h]
 omega
theorem Z4hb (a:Nat) (ha:a<18446744073709551616):intBits .and .u64 (a:Int) 1=((a%2:Nat):Int):=by
 have h:a &&& 1=a%2:=Ypa a
 show Yc .u64 (((Yf 64 (a:Int)) &&& (Yf 64 ((1:Nat):Int))).toNat:Int)=_
 rw [Yh,Yh,Yca,Yi,Yi,Zfh,Yg (show a<2^64 by omega),Yg (show 1<2^64 by omega),h]
 omega
theorem Zfib (a b:Nat) (ha:a<18446744073709551616) (hb:b<18446744073709551616):intBits .or .u64 (a:Int) (b:Int)=((a ||| b:Nat):Int):=by
 show Yc .u64 (((Yf 64 (a:Int)) ||| (Yf 64 (b:Int))).toNat:Int)=_
 have hx:a ||| b<2^64:=Nat.or_lt_two_pow (by omega) (by omega)
 rw [Yh,Yh,BitVec.toNat_or,Yi,Yi,Zfh,Yg (show a<2^64 by omega),Yg (show b<2^64 by omega)]
 omega
theorem Zrhb:∀a:Nat,a<256→intBits .and .u8 ((a:Nat):Int) 127=((a%128:Nat):Int):=by decide +kernel
theorem Zfob (a:Nat) (h:a<9223372036854775808):intBits .xor .i64 (-1) (a:Int) = -(a:Int)-1:=by
 show Yc .i64 (((Yf 64 (-1)) ^^^ (Yf 64 (a:Int))).toNat:Int)=_
 have e:(Yf 64 (-1))=BitVec.allOnes 64:=by decide
 rw [Yh,e,BitVec.allOnes_xor,BitVec.toNat_not,Yi,IntKind.wrap_i64,Yg (show a<2^64 by omega)]
 omega
theorem Zxi (k:IntKind) (r m:Nat) (h:m≤k.bits):shr k (r:Int) (m:Int)=((r/2^m:Nat):Int):=by
 unfold shr
 rw [Ye,Yra h,Int.fdiv_eq_ediv_of_nonneg _ (by exact Int.le_of_lt (Int.pow_pos (by omega)))]
 push_cast
 rfl
theorem Zlp (c:UInt8):c.toNat<256:=c.toNat_lt
theorem Zmib (c:UInt8):UInt8.ofNat ((c.toNat:Nat):Int).toNat=c:=by simp
def Z4k (r:Nat):Nat:=if r%2=1 then (r/2) ^^^ 3988292384 else r/2
def Z2r:Nat→Nat→Nat
 | 0,r=>r
 | n+1,r=>Z2r n (Z4k r)
def Z3r:Str→Nat→Nat
 | [],r=>r
 | c::l,r=>Z3r l (Z2r 8 (r ^^^ c.toNat))
def Zrf (c:Nat) (s:Str):Nat:=(Z3r s (c ^^^ 4294967295)) ^^^ 4294967295
theorem x32 {a b:Nat} (ha:a<4294967296) (hb:b<4294967296):a ^^^ b<4294967296:=Ywa (n:=32) ha hb
theorem Ztv {r:Nat} (h:r<4294967296):Z4k r<4294967296:=by
 unfold Z4k
 split
 ·exact x32 (by omega) (by omega)
 ·omega
theorem Zsy:∀(n:Nat) {r:Nat},r<4294967296→Z2r n r<4294967296
 | 0,_,h=>h
 | n+1,_,h=>Zsy n (Ztv h)
theorem Zf3:∀(l:Str) {r:Nat},r<4294967296→Z3r l r<4294967296
 | [],_,h=>h
 | c::l,r,h=>Zf3 l (Zsy 8 (x32 h (by have:=Zlp c;omega)))
def Z8m (n:Nat):Str:=Ztb [((n%256:Nat):Int),((n/256%256:Nat):Int),((n/65536%256:Nat):Int),((n/16777216%256:Nat):Int)]
def Zhf (s:Str):Str:=s++Z8m (Zrf 0 s)
theorem Z8r (n:Nat):(Z8m n).length=4:=rfl
theorem Z0q (s:Str):(Zhf s).length=s.length+4:=by unfold Zhf;rw [Yt,Z8r]
def Zn (s:Str):Str:=s.take (s.length-4)
theorem Zxr (s:Str):(Zn s).length=s.length-4:=by unfold Zn;simp
theorem Zsfb {a b:Str}:Zhf a=Zhf b ↔ a=b:=by
 constructor
 ·intro h
  exact List.append_inj_left' h (by rw [Z8r,Z8r])
 ·rintro rfl;rfl
theorem Zegb (s:Str):(Z8m (Zrf 0 (Zn s))=s.drop (s.length-4)) ↔ Zhf (Zn s)=s:=by
 have e:s=Zn s++s.drop (s.length-4):=(Yma _ _).symm
 unfold Zhf
 constructor
 ·intro h;rw [h];exact e.symm
 ·intro h
  exact List.append_cancel_left (h.trans e)
theorem Ziy (s:Str):Zn (Zhf s)=s:=by
 unfold Zn
 rw [Z0q,Nat.add_sub_cancel]
 unfold Zhf
 simp
def Zxc (s:Str):Str×Int:=if s.length<4 then ([],4) else if Zhf (Zn s)=s then (Zn s,0) else ([],5)
theorem Z1s {s:Str} (h:(Zxc s).2=0):Zxc s=(Zn s,0)∧Zhf (Zn s)=s∧4≤s.length:=by
 unfold Zxc at h ⊢
 by_cases h4:s.length<4
 ·rw [Xc h4] at h;simp at h
 ·rw [Xd h4] at h ⊢
  by_cases he:Zhf (Zn s)=s
  ·rw [Xc he];exact ⟨rfl,he,by omega⟩
  ·rw [Xd he] at h;simp at h
theorem Zesb {s:Str} (h:(Zxc s).2≠0):(Zxc s).1=[]:=by
 unfold Zxc at h ⊢
 by_cases h4:s.length<4
 ·rw [Xc h4]
 ·rw [Xd h4] at h ⊢
  by_cases he:Zhf (Zn s)=s
  ·rw [Xc he] at h;exact absurd rfl h
  ·rw [Xd he]
theorem Zw7 (s:Str):(Zxc s).1.length≤s.length:=by
 unfold Zxc
 split
 ·simp
 ·split
  ·rw [Zxr];omega
  ·simp
theorem Zx7 (s:Str):Zxc (Zhf s)=(s,0):=by
 unfold Zxc
 rw [Ziy,Xd (by rw [Z0q];omega),Xc rfl]
def zig (n:Int):Nat:=if n<0 then (-2*n-1).toNat else (2*n).toNat
def Z1c:Nat→Nat→List Int
 | 0,_=>[]
 | f+1,u=>if 128≤u then ((u%128+128:Nat):Int)::Z1c f (u/128) else [(u:Int)]
def Zk (n:Int):Str:=Ztb (Z1c 10 (zig n))
def Num (n:Int):Prop:=-9223372036854775808≤n∧n<9223372036854775808
theorem Z97 {n:Int} (h:Num n):zig n<18446744073709551616:=by unfold Num at h;unfold zig;split <;> omega
theorem Zrbb:∀(f u:Nat),(Z1c f u).length≤f
 | 0,_=>by simp [Z1c]
 | f+1,u=>by
  unfold Z1c;split
  ·simp only [Yz];have:=Zrbb f (u/128);omega
  ·simp
theorem Zdl (l:List Int):(Ztb l).length=l.length:=by simp [Ztb]
theorem Zuc (n:Int):(Zk n).length≤10:=by
 unfold Zk
 rw [Zdl]
 exact Zrbb 10 _
theorem Zc6 (n:Int):1≤(Zk n).length:=by
 unfold Zk
 rw [Zdl]
 unfold Z1c
 split <;> simp
def Zcb (s:Str):Str:=Zk (s.length:Int)++s
theorem Zok (s:Str):(Zcb s).length≤10+s.length:=by
 unfold Zcb
 have:=Zuc (s.length:Int)
 rw [Yt]
 omega
def unz (u:Nat):Int:=if u%2=1 then -((u/2:Nat):Int)-1 else ((u/2:Nat):Int)
def gn:Nat→Nat→Nat→Str→Int×Nat×Int
 | 0,_,_,_=>(0,0,3)
 | _+1,_,_,[]=>(0,0,4)
 | f+1,i,u,b::l=>if i=9∧1<b.toNat then (0,0,3) else if 128≤b.toNat then gn f (i+1) (u+b.toNat%128*128^i) l else if b.toNat=0∧0<i then (0,0,3) else (unz (u+b.toNat%128*128^i),i+1,0)
def fin (a:Nat) (r:Int×Nat×Int):Int×Int×Int:=if r.2.2=0 then (r.1,((a+r.2.1:Nat):Int),0) else (0,0,r.2.2)
def Zxd (s:Str) (a:Nat):Int×Int×Int:=fin a (gn 10 0 0 (s.drop a))
theorem Z45 (i:Nat):(2:Nat)^(7*i)=128^i:=by rw [Nat.pow_mul]
theorem Zl1 {i u b:Nat} (_:i≤8) (hu:u<128^i):u+b%128*128^i<128^(i+1):=by
 have h1:b%128≤127:=by omega
 have h2:b%128*128^i≤127*128^i:=Y8 _ h1
 rw [Yq]
 omega
theorem Zvdb {i:Nat} (hi:i≤9):128^i≤9223372036854775808:=by
 have:128^i≤128^9:=Yta (by omega) hi
 simpa using this
theorem Zigb {i b:Nat} (hi:i≤9) (h9:i=9→b≤1):b%128*128^i<18446744073709551616:=by
 by_cases h:i=9
 ·have:=h9 h
  subst h;have:b%128≤1:=by omega
  have:=Y8 (128^9) this;simp at this ⊢;omega
 ·have h1:128^i≤128^8:=Yta (by omega) (by omega)
  have h2:b%128≤127:=by omega
  have:=Nat.mul_le_mul h2 h1;simp at this;omega
theorem Zo7 {i u b:Nat} (hi:i≤9) (hu:u<128^i) (h9:i=9→b≤1):u+b%128*128^i<18446744073709551616:=by
 by_cases h:i=9
 ·have:=h9 h
  subst h;have h1:b%128≤1:=by omega
  have:=Y8 (128^9) h1;simp at this hu ⊢;omega
 ·have h1:=Zl1 (b:=b) (show i≤8 by omega) hu
  have h2:=Zvdb (show i+1≤9 by omega);omega
theorem Zwfb {i b:Nat} (hi:i≤9) (h9:i=9→b≤1):shl .u64 ((b%128:Nat):Int) ((7*i:Nat):Int)=((b%128*128^i:Nat):Int):=by
 unfold shl
 rw [Ye,Yra (by simp [Yr];omega),Zfh]
 have e:((b%128:Nat):Int)*2^(7*i)=((b%128*128^i:Nat):Int):=by rw [← Z45];push_cast;rfl
 rw [e]
 have:=Zigb hi h9
 omega
theorem Znob {i u b:Nat} (hu:u<128^i):u ||| (b%128*128^i)=u+b%128*128^i:=by
 have h:=@Nat.shiftLeft_add_eq_or_of_lt (7*i) u (by rw [Z45];exact hu) (b%128)
 rw [Nat.shiftLeft_eq,Z45] at h
 rw [Nat.or_comm,← h,Yoa]
theorem Zrsb (v:Nat):zig (unz v)=v:=by
 unfold unz
 split
 ·unfold zig;split <;> omega
 ·unfold zig;split <;> omega
theorem Zgsb (n:Int):unz (zig n)=n:=by
 unfold zig
 split
 ·unfold unz;split <;> omega
 ·unfold unz;split <;> omega
theorem Zfsb {v:Nat} (h:v<18446744073709551616):Num (unz v):=by
 unfold Num unz
 split <;> omega
theorem Zlbb:∀(f i u:Nat) (l:Str),i+f=10→i≤9→u<128^i→(gn f i u l).2.2=0 →
  ∃v,gn f i u l=(unz (u+v*128^i),i+(Z1c f v).length,0)∧l=Ztb (Z1c f v)++l.drop (Z1c f v).length∧u+v*128^i<18446744073709551616∧(0<i→v≠0)
 | 0,i,u,l,hf,h9,_,_=>by omega
 | f+1,i,u,[],hf,h9,hu,h0=>by simp [gn] at h0
 | f+1,i,u,c::l,hf,hi9,hu,h0=>by
  have hb:=Zlp c;have hbc:=Zmib c;simp only [gn] at h0 ⊢;generalize hcb:c.toNat=b at h0 hb hbc ⊢
  by_cases h9:i=9∧1<b
  ·rw [Xc h9] at h0;simp at h0
  rw [Xd h9] at h0 ⊢
  have hb9:i=9→b≤1:=fun h=>by
   rcases Y7 1 b with h1 | h1
   ·exact absurd ⟨h,h1⟩ h9
   ·exact h1
  by_cases h128:128≤b
  ·have hi8:i≤8:=by
    by_cases h:i=9
    ·have:=hb9 h;omega
    ·omega
   rw [Xc h128] at h0 ⊢;obtain ⟨v,e1,e2,e3,e4⟩:=Zlbb f (i+1) (u+b%128*128^i) l (by omega) (by omega) (Zl1 hi8 hu) h0;have hv:=e4 (by omega)
   have hs:u+b%128*128^i+v*128^(i+1)=u+(b%128+128*v)*128^i:=by
    rw [Yq,Nat.add_mul,Yv (128^i) 128,← Ysa,Yv v 128,Y6]
   have hg:Z1c (f+1) (b%128+128*v)=(b:Int)::Z1c f v:=by
    have h1:128≤b%128+128*v:=by omega
    have h2:(b%128+128*v)/128=v:=by omega
    have h3:(b%128+128*v)%128+128=b:=by omega
    simp only [Z1c,Xc h1,h2,h3]
   refine ⟨b%128+128*v,?_,?_,?_,?_⟩
   ·rw [e1,hs,hg,Yz,Y6,Yoa 1]
   ·rw [hg]
    show c::l=UInt8.ofNat ((b:Nat):Int).toNat::(Ztb (Z1c f v)++l.drop (Z1c f v).length);rw [hbc,← e2]
   ·rw [← hs];exact e3
   ·intro _;omega
  ·rw [Xd h128] at h0 ⊢
   by_cases hz:b=0∧0<i
   ·rw [Xc hz] at h0;simp at h0
   rw [Xd hz] at h0 ⊢;have hm:b%128=b:=by omega
   have hsl:=Zo7 (b:=b) hi9 hu hb9;rw [hm] at hsl ⊢;have hg:Z1c (f+1) b=[(b:Int)]:=by simp only [Z1c,Xd h128]
   refine ⟨b,?_,?_,hsl,?_⟩
   ·rw [hg];rfl
   ·rw [hg]
    show c::l=UInt8.ofNat ((b:Nat):Int).toNat::l;rw [hbc]
   ·intro hi hb0;exact hz ⟨hb0,hi⟩
structure Got (s:Str) (a:Nat) (n:Int) (a':Nat):Prop where
 at':a'=a+(Zk n).length
 le:a'≤s.length
 eq:s.drop a=Zk n++s.drop a'
 range:Num n
theorem Zfl (s:Str) (a:Nat):(∃(n:Int) (a':Nat),Zxd s a=(n,(a':Int),0)∧Got s a n a')∨∃c,c≠0∧Zxd s a=(0,0,c):=by
 unfold Zxd fin
 by_cases h:(gn 10 0 0 (s.drop a)).2.2=0
 ·left
  obtain ⟨v,e1,e2,e3,_⟩:=Zlbb 10 0 0 (s.drop a) (by omega) (by omega) (by omega) h;simp only [Yua,Yp,Yn] at e1 e3;have hB:Zk (unz v)=Ztb (Z1c 10 v):=by unfold Zk;rw [Zrsb]
  have hsz:(Zk (unz v)).length=(Z1c 10 v).length:=by rw [hB,Zdl]
  refine ⟨unz v,a+(Zk (unz v)).length,?_,rfl,?_,?_,Zfsb e3⟩
  ·rw [e1,hsz]
   rfl
  ·have:=congrArg Yia e2
   simp only [Yt,Zdl,Yja] at this;have hp:0<(Z1c 10 v).length:=by unfold Z1c;split <;> simp
   omega
  ·rw [hsz,← Yfa,hB]
   exact e2
 ·right
  exact ⟨_,h,by rw [Xd h]⟩
theorem Zmbb:∀(f i u v:Nat) (l:Str),i+f=10→i≤9→v<128^f→u+v*128^i<18446744073709551616→(0<i→v≠0)→gn f i u (Ztb (Z1c f v)++l)=(unz (u+v*128^i),i+(Z1c f v).length,0)
 | 0,i,u,v,l,hf,h9,_,_,_=>by omega
 | f+1,i,u,v,l,hf,hi9,hv,hb,hz=>by
  have h9':i=9→v≤1:=fun h=>by subst h;simp at hb;omega
  by_cases h128:128≤v
  ·have hi8:i≤8:=by
    by_cases h:i=9
    ·have:=h9' h;omega
    ·omega
   have hg:Z1c (f+1) v=((v%128+128:Nat):Int)::Z1c f (v/128):=by simp only [Z1c,Xc h128]
   have ht:(UInt8.ofNat (((v%128+128:Nat):Int)).toNat).toNat=v%128+128:=by
    rw [Ye,UInt8.toNat_ofNat'];omega
   rw [hg];show gn (f+1) i u (UInt8.ofNat (((v%128+128:Nat):Int)).toNat::(Ztb (Z1c f (v/128))++l))=_;simp only [gn];rw [ht,Xd (by omega),Xc (by omega)]
   have hs:u+(v%128+128)%128*128^i+v/128*128^(i+1)=u+v*128^i:=by
    have e:(v%128+128)%128=v%128:=by omega
    have e2:v%128*128^i+v/128*(128*128^i)=v*128^i:=by
     rw [← Ysa,← Nat.add_mul];congr 1;omega
    rw [e,Yq,Yv (128^i) 128,Y6,e2]
   rw [Zmbb f (i+1) _ (v/128) l (by omega) (by omega) (by rw [Yq] at hv;exact Yqa (by rw [Yv];exact hv)) (by rw [hs];exact hb) (fun _=>by omega),hs];simp only [Yz,Prod.mk.injEq,and_true,true_and];omega
  ·have hg:Z1c (f+1) v=[(v:Int)]:=by simp only [Z1c,Xd h128]
   have ht:(UInt8.ofNat ((v:Int)).toNat).toNat=v:=by
    rw [Ye,UInt8.toNat_ofNat'];omega
   rw [hg];show gn (f+1) i u (UInt8.ofNat ((v:Int)).toNat::l)=_;simp only [gn];rw [ht,Xd (fun q=>by have:=h9' q.1;omega),Xd h128,Xd (fun q=>hz q.2 q.1),Yg (by omega)];rfl
theorem Zan (n:Int) (h:Num n) (s:Str) (a:Nat) (t:Str) (hs:s.drop a=Zk n++t):Zxd s a=(n,((a+(Zk n).length:Nat):Int),0):=by
 unfold Zxd
 have hz:=Z97 h
 rw [hs]
 unfold Zk
 rw [Zmbb 10 0 0 (zig n) t rfl (by omega) (by omega) (by omega) (fun q=>absurd q (by omega))]
 simp only [Yua,Yp,Yn,Zgsb,Zdl]
 rfl
def Zxh (s:Str) (a:Nat):Str×Int×Int:=if (Zxd s a).2.2=0 then if 0≤(Zxd s a).1∧(Zxd s a).1≤8000 then if (Zxd s a).1 > (s.length:Int)-(Zxd s a).2.1 then ([],0,4) else ((s.take ((Zxd s a).2.1+(Zxd s a).1).toNat).drop (Zxd s a).2.1.toNat,(Zxd s a).2.1+(Zxd s a).1,0) else ([],0,3) else ([],0,(Zxd s a).2.2)
structure GotT (s:Str) (a:Nat) (t:Str) (a':Nat):Prop where
 at':a'=a+(Zcb t).length
 le:a'≤s.length
 eq:s.drop a=Zcb t++s.drop a'
 size:t.length≤8000
theorem Znr (s:Str) (a:Nat):(∃t a',Zxh s a=(t,((a':Nat):Int),0)∧GotT s a t a')∨∃c,c≠0∧Zxh s a=([],0,c):=by
 unfold Zxh
 rcases Zfl s a with ⟨n,a',e,g⟩ | ⟨c,hc,e⟩
 ·rw [e]
  simp only [if_true]
  by_cases hn:0≤n∧n≤8000
  ·rw [Xc hn]
   have hle:=g.le
   by_cases hs:n > (s.length:Int)-(a':Int)
   ·rw [Xc hs]
    exact .inr ⟨4,by omega,rfl⟩
   ·rw [Xd hs]
    obtain ⟨m,rfl⟩:∃m:Nat,n=(m:Int):=⟨n.toNat,by omega⟩;have e1:((a':Int)+(m:Int)).toNat=a'+m:=by omega
    rw [e1,Ye]
    have hB:(s.take (a'+m)).drop a'=(s.drop a').take m:=by
     rw [List.drop_take,Nat.add_sub_cancel_left]
    have hsz:((s.take (a'+m)).drop a').length=m:=by
     rw [hB,List.length_take,Yja];omega
    refine .inl ⟨_,a'+m,by push_cast;rfl,?_,?_,?_,?_⟩
    ·unfold Zcb
     rw [Yt,hsz];have:=g.at';omega
    ·omega
    ·unfold Zcb
     rw [hsz,hB,g.eq,Yy,← Yfa,Yma]
    ·rw [hsz];omega
  ·rw [Xd hn]
   exact .inr ⟨3,by omega,rfl⟩
 ·rw [e]
  simp only;rw [Xd hc];exact .inr ⟨c,hc,rfl⟩
def Zkb (s:Str) (a:Nat):Int×Str×Int×Bool:=if (Zxd s a).2.2=0 then ((Zxd s a).1,s,(Zxd s a).2.1,false) else (0,s,(a:Int),true)
theorem Zau (s:Str) (a:Nat):(∃n a',Zkb s a=(n,s,((a':Nat):Int),false)∧Got s a n a')∨Zkb s a=(0,s,(a:Int),true):=by
 unfold Zkb
 rcases Zfl s a with ⟨n,a',e,g⟩ | ⟨c,hc,e⟩
 ·left;exact ⟨n,a',by rw [e];rfl,g⟩
 ·right;rw [e,Xd hc]
def Zhg (s:Str) (a:Nat):Str×Str×Int×Bool:=if (Zxh s a).2.2=0 then ((Zxh s a).1,s,(Zxh s a).2.1,false) else ([],s,(a:Int),true)
theorem Zjgb (s:Str) (a:Nat):(∃t a',Zhg s a=(t,s,((a':Nat):Int),false)∧GotT s a t a')∨Zhg s a=([],s,(a:Int),true):=by
 unfold Zhg
 rcases Znr s a with ⟨n,a',e,g⟩ | ⟨c,hc,e⟩
 ·left;exact ⟨n,a',by rw [e];rfl,g⟩
 ·right;rw [e,Xd hc]
theorem Zei (a b:Int):(a==b)=decide (a=b):=by rw [Yda];simp
theorem Zsbb (r:Nat):shr .u32 (r:Int) 1=((r/2:Nat):Int):=Zxi .u32 r 1 (by decide)
theorem sl0:∀(n r j:Nat),n≤8→r<4294967296→n<j→Zjc.l0 j (r:Int) ((8-n:Nat):Int)=some ((Z2r n r:Nat):Int)
 | n,r,0,_,_,h=>absurd h (Ym n)
 | 0,r,j+1,_,_,_=>by
  unfold Zjc.l0;rfl
 | n+1,r,j+1,hn,hr,hj=>by
  have e:Yc .i64 (((8-(n+1):Nat):Int)+1)=((8-n:Nat):Int):=by rw [w64] <;> omega
  unfold Zjc.l0;rw [Xa (by omega:(((8-(n+1):Nat):Int))<8),Z48 _ hr,Zsbb,e,Zdc (by omega),Zei];simp only [Xe,Yd]
  by_cases hp:r%2=1
  ·rw [Xa (by omega:((r%2:Nat):Int)=1),show (3988292384:Int)=((3988292384:Nat):Int) from rfl,Zjp _ _ (by omega) (by omega)]
   have e2:Z4k r=r/2 ^^^ 3988292384:=by unfold Z4k;rw [Xc hp]
   rw [Xe,← e2];exact sl0 n (Z4k r) j (by omega) (Ztv hr) (by omega)
  ·rw [Xb (by omega:¬(((r%2:Nat):Int)=1))]
   have e2:Z4k r=r/2:=by unfold Z4k;rw [Xd hp]
   rw [Xf,← e2];exact sl0 n (Z4k r) j (by omega) (Ztv hr) (by omega)
theorem sl1 (x:Str) (hx:x.length≤140737488351232) (k:Nat) (hk:9≤k):∀(d i r j:Nat),x.length-i=d→i≤x.length→r<4294967296→d<j→Zjc.l1 k j x (r:Int) (i:Int)=some ((Z3r (x.drop i) r:Nat):Int)
 | d,i,r,0,_,_,_,h=>absurd h (Ym d)
 | 0,i,r,j+1,hd,hi,hr,_=>by
  unfold Zjc.l1;rw [Xb (by omega:¬((i:Int)<(x.length:Int))),Y4 (by omega)];rfl
 | d+1,i,r,j+1,hd,hi,hr,hj=>by
  have hlt:i<x.length:=by omega
  have hc:=Zlp x[i];unfold Zjc.l1;rw [Xa (by omega:(i:Int)<(x.length:Int)),Zh hlt];simp only [Xe,Yd];have hxr:=x32 hr (show x[i].toNat<4294967296 by omega);rw [Z0s,show (((x[i].toNat:Nat):Int)%4294967296)=((x[i].toNat:Nat):Int) by omega,Zjp _ _ hr (by omega),Zs (by omega)];have h8:=sl0 8 (r ^^^ x[i].toNat) k (Yj _) hxr (by omega);have h8:Zjc.l0 k ((r ^^^ x[i].toNat:Nat):Int) 0=some ((Z2r 8 (r ^^^ x[i].toNat):Nat):Int):=h8;rw [h8,Yo hlt];simp only [Yd];exact sl1 x hx k hk d (i+1) _ j (by omega) (by omega) (Zsy 8 hxr) (by omega)
theorem sCrc (c:Nat) (s:Str) (hc:c<4294967296) (hs:s.length≤140737488351232):Zc fun k=>Zjc k (c:Int) s=some ((Zrf c s:Nat):Int):=by
 refine Zc.ge (s.length+9) fun k hk=>?_
 have h:=sl1 s hs k (by omega) s.length 0 (c ^^^ 4294967295) k (by omega) (by omega) (x32 hc (by omega)) (by omega)
 have h:Zjc.l1 k k s ((c ^^^ 4294967295:Nat):Int) 0=some ((Z3r s (c ^^^ 4294967295):Nat):Int):=h
 unfold Zjc
 rw [Z0s,show ((c:Int)%4294967296)=(c:Int) by omega,show (4294967295:Int)=((4294967295:Nat):Int) from rfl,Zjp _ _ hc (by omega),h]
 simp only [Yd]
 have hl:=Zf3 s (x32 hc (show 4294967295<4294967296 by omega))
 have hl2:=x32 hl (show 4294967295<4294967296 by omega)
 rw [Zjp _ _ hl (by omega),w64 (by omega) (by omega)]
 rfl
theorem il0 (x:Str) (i:Nat) (hi:i<x.length):∀(n s r j:Nat),n≤8→s<4294967296→r=s ^^^ (x[i].toNat/2^(8-n))→n<j→Zpc.l0 j x (r:Int) (i:Int) ((8-n:Nat):Int)=some ((Z2r n s:Nat):Int)
 | n,s,r,0,_,_,_,h=>absurd h (Ym n)
 | 0,s,r,j+1,_,_,hr,_=>by
  have hc:=Zlp x[i];have:x[i].toNat/2^(8-0)=0:=Nat.div_eq_of_lt (by simpa using hc);rw [this,Yxa] at hr;subst hr;unfold Zpc.l0;rfl
 | n+1,s,r,j+1,hn,hs,hr,hj=>by
  have hc:=Zlp x[i];have e:Yc .i64 (((8-(n+1):Nat):Int)+1)=((8-n:Nat):Int):=by rw [w64] <;> omega
  have ih:=il0 x i hi n (Z4k s);unfold Zpc.l0;rw [Xa (by omega:(((8-(n+1):Nat):Int))<8),Zh hi];simp only [Xe,Yd];generalize x[i].toNat=c at hc hr ih ⊢;have hcd:c/2^(8-(n+1))<256:=Nat.lt_of_le_of_lt (Nat.div_le_self _ _) hc;have hrl:r<4294967296:=by rw [hr];exact x32 hs (by omega)
  have hsr:r ^^^ (c/2^(8-(n+1)))=s:=by rw [hr,Y1,Nat.xor_self,Yxa]
  have hhalf:r/2=s/2 ^^^ (c/2^(8-n)):=by
   have e1:c/2^(8-n)=(c/2^(8-(n+1)))/2:=by rw [Nat.div_div_eq_div_mul,← Yq];congr 2;omega
   rw [hr,e1];have:=@Nat.shiftRight_xor_distrib 1 s (c/2^(8-(n+1)));simpa [Nat.shiftRight_eq_div_pow] using this
  rw [Z0s,show ((c:Int)%4294967296)=(c:Int) by omega,Zxi .u32 c (8-(n+1)) (by show 8-(n+1)≤32;omega),Zjp _ _ hrl (by omega),hsr,Z48 _ hs,Zsbb,e,Zdc (by omega),Zdc (by omega),Zei];simp only [Yd]
  by_cases hp:s%2=1
  ·rw [Xa (by omega:((s%2:Nat):Int)=1),show (3988292384:Int)=((3988292384:Nat):Int) from rfl,Zjp _ _ (by omega) (by omega),Xe]
   refine ih _ j (by omega) (Ztv hs) ?_ (by omega);unfold Z4k;rw [Xc hp,hhalf,Y1,Y1,Y9 (c/2^(8-n))]
  ·rw [Xb (by omega:¬(((s%2:Nat):Int)=1)),Xf]
   refine ih _ j (by omega) (Ztv hs) ?_ (by omega);unfold Z4k;rw [Xd hp,hhalf]
theorem il1 (x:Str) (hx:x.length≤140737488351232) (k:Nat) (hk:9≤k):∀(d i r j:Nat),x.length-i=d→i≤x.length→r<4294967296→d<j→Zpc.l1 k j x (r:Int) (x.length:Int) (i:Int)=some ((Z3r (x.drop i) r:Nat):Int)
 | d,i,r,0,_,_,_,h=>absurd h (Ym d)
 | 0,i,r,j+1,hd,hi,hr,_=>by
  unfold Zpc.l1;rw [Xb (by omega:¬((i:Int)<(x.length:Int))),Y4 (by omega)];rfl
 | d+1,i,r,j+1,hd,hi,hr,hj=>by
  have hlt:i<x.length:=by omega
  have hc:=Zlp x[i];unfold Zpc.l1;rw [Xa (by omega:(i:Int)<(x.length:Int))];have hxr:=x32 hr (show x[i].toNat<4294967296 by omega);have h8:=il0 x i hlt 8 (r ^^^ x[i].toNat) r k (Yj _) hxr (by simp [Y1]) (by omega);have h8:Zpc.l0 k x (r:Int) (i:Int) 0=some ((Z2r 8 (r ^^^ x[i].toNat):Nat):Int):=h8;rw [h8,Yo hlt];simp only [Xe,Yd];rw [Zs (by omega)];exact il1 x hx k hk d (i+1) _ j (by omega) (by omega) (Zsy 8 hxr) (by omega)
theorem iCrc (c:Nat) (s:Str) (hc:c<4294967296) (hs:s.length≤140737488351232):Zc fun k=>Zpc k (c:Int) s=some ((Zrf c s:Nat):Int):=by
 refine Zc.ge (s.length+9) fun k hk=>?_
 have h:=il1 s hs k (by omega) s.length 0 (c ^^^ 4294967295) k (by omega) (by omega) (x32 hc (by omega)) (by omega)
 have h:Zpc.l1 k k s ((c ^^^ 4294967295:Nat):Int) (s.length:Int) 0=some ((Z3r s (c ^^^ 4294967295):Nat):Int):=h
 unfold Zpc
 rw [show (IntKind.max .u32:Int)=((4294967295:Nat):Int) from rfl,Zjp _ _ (by omega) hc,Y9,h]
 simp only [Yd]
 have hl:=Zf3 s (x32 hc (show 4294967295<4294967296 by omega))
 rw [Zjp _ _ (by omega) hl,Y9]
 rfl
theorem Zafb (n:Nat):Zwn (n:Int)=some (Z8m n):=by
 unfold Zwn Z8m
 have h8:=Zxi .i64 n 8 (by decide)
 have h16:=Zxi .i64 n 16 (by decide)
 have h24:=Zxi .i64 n 24 (by decide)
 have h8:shr .i64 (n:Int) 8=((n/256:Nat):Int):=h8
 have h16:shr .i64 (n:Int) 16=((n/65536:Nat):Int):=h16
 have h24:shr .i64 (n:Int) 24=((n/16777216:Nat):Int):=h24
 rw [Zdc (by omega),Zdc (by omega),Zdc (by omega)]
 simp only [Yd]
 rw [h8,h16,h24,u8w,u8w,u8w,u8w]
 rfl
theorem Za1 (s:Str) (hs:s.length≤7996):Zc fun k=>Zzj k s=some (Zhf s):=by
 refine (sCrc 0 s (by omega) (by omega)).mono fun k h=>?_
 have h:Zjc k 0 s=some ((Zrf 0 s:Nat):Int):=h
 unfold Zzj
 rw [Xb (by omega:¬(7996<(s.length:Int))),h]
 simp only [Xf,Yd]
 rw [Zafb]
 simp only [Yd]
 rw [Zwd (by rw [Z8r];omega)]
 rfl
theorem Zh4 (s:Str) (hs:s.length≤140737488351232):Zc fun k=>Z9k k s=some (Zhf s):=by
 refine (iCrc 0 s (by omega) (by omega)).mono fun k h=>?_
 have h:Zpc k 0 s=some ((Zrf 0 s:Nat):Int):=h
 have h8:=Zxi .u32 (Zrf 0 s) 8 (by decide)
 have h16:=Zxi .u32 (Zrf 0 s) 16 (by decide)
 have h24:=Zxi .u32 (Zrf 0 s) 24 (by decide)
 have h8:shr .u32 ((Zrf 0 s:Nat):Int) 8=((Zrf 0 s/256:Nat):Int):=h8
 have h16:shr .u32 ((Zrf 0 s:Nat):Int) 16=((Zrf 0 s/65536:Nat):Int):=h16
 have h24:shr .u32 ((Zrf 0 s:Nat):Int) 24=((Zrf 0 s/16777216:Nat):Int):=h24
 unfold Z9k
 rw [h,Zdc (by omega),Zdc (by omega),Zdc (by omega)]
 simp only [Yd]
 rw [h8,h16,h24,u8w,u8w,u8w,u8w]
 have e:Ztb [((Zrf 0 s:Nat):Int)%256,((Zrf 0 s/256:Nat):Int)%256,((Zrf 0 s/65536:Nat):Int)%256,((Zrf 0 s/16777216:Nat):Int)%256]=Z8m (Zrf 0 s):=rfl
 rw [e,Zwd (by rw [Z8r];omega)]
 rfl
theorem Zvr (s t:Str):(s==t)=decide (s=t):=by rw [Yda];simp
theorem Zvt (s:Str) (hs:s.length≤140737488351232):Zc fun k=>Zal k s=some (Zxc s):=by
 refine (Zh4 (Zn s) (by rw [Zxr];omega)).mono fun k h=>?_
 unfold Zal Zxc
 by_cases h4:s.length<4
 ·rw [Xa (by omega:(s.length:Int)<4),Xc h4]
  rfl
 ·rw [Xb (by omega:¬((s.length:Int)<4)),Xd h4,w64 (by omega) (by omega),show ((s.length:Int)-4)=((s.length-4:Nat):Int) by omega]
  have hc:=Zhi (l:=s) (i:=0) (j:=s.length-4) (by omega) (by omega);have hc:Z2b s 0 ((s.length-4:Nat):Int)=some (Zn s):=hc;rw [hc];simp only [Xf,Yd];rw [h];simp only [Yd,Zvr]
  by_cases he:Zhf (Zn s)=s
  ·rw [Xc he,Xa he];rfl
  ·rw [Xd he,Xb he];rfl
theorem Zjl (s:Str) (hs:s.length≤8000):Zc fun k=>Z0j k s=some ((Zxc s).1,0,(Zxc s).2):=by
 refine (sCrc 0 (Zn s) (by omega) (by rw [Zxr];omega)).mono fun k h=>?_
 have h:Zjc k 0 (Zn s)=some ((Zrf 0 (Zn s):Nat):Int):=h
 unfold Z0j Zxc
 rw [Xb (by omega:¬(8000<(s.length:Int)))]
 by_cases h4:s.length<4
 ·rw [Xa (by omega:(s.length:Int)<4),Xc h4]
  rfl
 ·rw [Xb (by omega:¬((s.length:Int)<4)),Xd h4,w64 (by omega) (by omega),show ((s.length:Int)-4)=((s.length-4:Nat):Int) by omega]
  have hc:=Zhi (l:=s) (i:=0) (j:=s.length-4) (by omega) (by omega);have hc:Z2b s 0 ((s.length-4:Nat):Int)=some (Zn s):=hc;have hd:=Zhi (l:=s) (i:=s.length-4) (j:=s.length) (by omega) (by omega);rw [Yna] at hd;simp only [Xf];rw [hc];simp only [Yd];rw [h];simp only [Yd];rw [Zafb,hd];simp only [Yd,Zvr]
  by_cases he:Zhf (Zn s)=s
  ·rw [Xc he,Xa ((Zegb s).2 he)];rfl
  ·rw [Xd he,Xb (fun q=>he ((Zegb s).1 q))];rfl
theorem Zeqb (n:Int) (h:Num n):Zfr n=some ((zig n:Nat):Int):=by
 unfold Num at h
 unfold Zfr zig
 simp only [Zfh]
 by_cases hn:n<0
 ·rw [Xa hn,Xc hn,w64 (n:=n+1) (by omega) (by omega),w64 (by omega) (by omega)]
  rw [Xe];congr 1;omega
 ·rw [Xb hn,Xd hn,Xf]
  congr 1;omega
theorem sput:∀(f u:Nat) (acc:List Int) (j:Nat),u<128^f→u<18446744073709551616→acc.length+f≤100→0<f→f<j+1→∃p:Int×List Int,Zec.l0 j (u:Int) acc=some p∧p.2.length≤100∧p.2++[Yc .u8 p.1]=acc++Z1c f u
 | 0,_,_,_,_,_,_,h,_=>absurd h (by omega)
 | f+1,u,acc,0,hu,hb,hl,_,hj=>by omega
 | f+1,u,acc,j+1,hu,hb,hl,_,hj=>by
  unfold Zec.l0
  by_cases h:128≤u
  ·have hf:0<f:=by
    rcases Nat.eq_zero_or_pos f with rfl | h'
    ·simp at hu;omega
    ·exact h'
   obtain ⟨p,e,e1,e2⟩:=sput f (u/128) (acc++[((u%128+128:Nat):Int)]) j (by rw [Yq] at hu;exact Yqa (by rw [Yv];exact hu)) (by omega) (by simp;omega) hf (by omega);refine ⟨p,?_,e1,?_⟩
   ·rw [Xa (by omega:(128:Int)≤(u:Int)),Znk (by omega:(128:Int)≠0)]
    simp only [Xe,Yd];rw [Z6 (by simp;omega),u8w,Zfh,Zfh,Y3 (by omega),Yea (by omega)];simp only [Yd];rw [show (((u:Int)/128)%18446744073709551616)=((u/128:Nat):Int) by omega,show ((((u:Int)%128+128)%18446744073709551616)%256)=((u%128+128:Nat):Int) by omega];exact e
   ·rw [e2,Yy]
    simp [Z1c,h]
  ·refine ⟨((u:Int),acc),?_,by show acc.length≤100;omega,?_⟩
   ·rw [Xb (by omega:¬((128:Int)≤(u:Int)))]
    rfl
   ·show acc++[Yc .u8 (u:Int)]=_
    rw [u8w,show ((u:Int)%256)=(u:Int) by omega];simp [Z1c,h]
theorem Zdj (n:Int) (h:Num n):Zc fun k=>Zec k n=some (Zk n):=by
 refine Zc.ge 10 fun k hk=>?_
 have hz:=Z97 h
 obtain ⟨p,e,e1,e2⟩:=sput 10 (zig n) [] k (by omega) hz (by simp) (by omega) (by omega)
 unfold Zec
 rw [Zeqb n h]
 simp only [Yd]
 rw [e]
 simp only [Yd]
 rw [Z6 (by simp;omega),e2]
 rfl
theorem Zqab (s:Str) (j:Nat):(s.drop j=[]∧s.length≤j)∨∃h:j<s.length,s.drop j=s[j]::s.drop (j+1):=by
 by_cases h:j<s.length
 ·exact .inr ⟨h,Yo h⟩
 ·exact .inl ⟨Y4 (by omega),by omega⟩
theorem sgn (s:Str) (hs:s.length≤140737488351232) (a:Nat) (ha:a<9223372036854775000):∀(f i u j:Nat),i+f=10→i≤9→u<128^i→(0<i→a+i≤s.length)→f<j→Z9d.l0 j s (a:Int) (u:Int) (i:Int) 0 0 0=some (.inr (fin a (gn f i u (s.drop (a+i)))))
 | f,i,u,0,_,_,_,_,h=>absurd h (Ym f)
 | 0,i,u,j+1,hf,h9,hu,hz,_=>by omega
 | f+1,i,u,j+1,hf,hi9,hu,hz,hj=>by
  unfold Z9d.l0;rw [Xa (by omega:(i:Int)<10),w64 (n:=(s.length:Int)-(i:Int)) (by omega) (by omega),Xe];rcases Zqab s (a+i) with ⟨hd,hlen⟩ | ⟨hlt,hd⟩
  ·rw [Xa (by omega:(s.length:Int)-(i:Int)≤(a:Int)),hd]
   rfl
  ·rw [Xb (by omega:¬((s.length:Int)-(i:Int)≤(a:Int))),w64 (n:=(a:Int)+(i:Int)) (by omega) (by omega),show ((a:Int)+(i:Int))=((a+i:Nat):Int) by omega]
   simp only [Xf];rw [Zh hlt,hd];simp only [Yd,gn];have hb:=Zlp s[a+i];have ih:=fun u'=>sgn s hs a ha f (i+1) u' j
   generalize s[a+i].toNat=b at hb ⊢;rw [Zfh (b:Int),show ((b:Int)%18446744073709551616)=(b:Int) by omega,Zei,Znk (by omega:(128:Int)≠0)]
   by_cases h9:i=9∧1<b
   ·rw [Xa (by omega:(i:Int)=9),Xa (by omega:(1:Int)<(b:Int)),Xc h9]
    rfl
   ·rw [Xd h9,show (decide ((i:Int)=9)&&decide ((1:Int)<(b:Int)))=false by
     by_cases h:i=9
     ·rw [Xb (by omega:¬((1:Int)<(b:Int))),Yw]
     ·rw [Xb (by omega:¬((i:Int)=9))];rfl]
    have hb9:i=9→b≤1:=fun h=>by
     rcases Y7 1 b with h1 | h1
     ·exact absurd ⟨h,h1⟩ h9
     ·exact h1
    have hsl:=Zo7 (b:=b) (show i≤9 by omega) hu hb9
    have hv:Yc .u64 ((u:Int)+shl .u64 (Y2 (b:Int) 128) (Yc .u64 (Yc .i64 (7*(i:Int)))))=((u+b%128*128^i:Nat):Int):=by
     rw [w64 (by omega) (by omega),Zfh (7*(i:Int)),show (7*(i:Int))%18446744073709551616=((7*i:Nat):Int) by omega,Y3 (by omega),show (b:Int)%128=((b%128:Nat):Int) by omega,Zwfb (by omega) hb9,Zfh];omega
    have hn:Zbc (Yc .u64 (Yc .i64 (7*(i:Int))))=some ():=Zdc (by rw [Zfh];omega);simp only [Xf,Yd];rw [hn];simp only [Yd];rw [hv]
    by_cases h128:128≤b
    ·have hi8:i≤8:=by
      by_cases h:i=9
      ·have:=hb9 h;omega
      ·omega
     rw [Xb (by omega:¬((b:Int)<128)),Xc h128,Xf,Zs (by omega),show a+i+1=a+(i+1) by omega];exact ih _ (by omega) (by omega) (Zl1 hi8 hu) (fun _=>by omega) (by omega)
    ·rw [Xa (by omega:((b:Int)<128)),Xd h128,Xe,Zei]
     by_cases h0:b=0∧0<i
     ·rw [Xa (by omega:(b:Int)=0),Xa (by omega:(0:Int)<(i:Int)),Xc h0]
      rfl
     ·rw [Xd h0,show (decide ((b:Int)=0)&&decide ((0:Int)<(i:Int)))=false by
       by_cases h:b=0
       ·rw [Xb (by omega:¬((0:Int)<(i:Int))),Yw]
       ·rw [Xb (by omega:¬((b:Int)=0))];rfl]
      generalize u+b%128*128^i=v at hsl
      have e2:Yc .i64 (Yc .u64 (Int.tdiv (v:Int) 2))=((v/2:Nat):Int):=by
       rw [Yea (by omega),Zfh,w64 (by omega) (by omega)];omega
      rw [Xf,Znk (by omega:(2:Int)≠0)];simp only [Yd];rw [Zs (by omega),e2,Y3 (by omega),Zei];unfold fin unz
      by_cases hp:v%2=1
      ·rw [Xa (by omega:(v:Int)%2=1),Xc hp,w64 (n:=0-((v/2:Nat):Int)) (by omega) (by omega),w64 (by omega) (by omega),Xe,show (0-((v/2:Nat):Int)-1) = -((v/2:Nat):Int)-1 by omega]
       rfl
      ·rw [Xb (by omega:¬((v:Int)%2=1)),Xd hp]
       rfl
theorem ign (s:Str) (hs:s.length≤140737488351232) (a:Nat) (ha:a<9223372036854775000):∀(f i u j:Nat),i+f=10→i≤9→u<128^i→(0<i→a+i≤s.length)→f<j→Ztf.l0 j s (a:Int) (u:Int) (i:Int)=some (fin a (gn f i u (s.drop (a+i))))
 | f,i,u,0,_,_,_,_,h=>absurd h (Ym f)
 | 0,i,u,j+1,hf,h9,hu,hz,_=>by omega
 | f+1,i,u,j+1,hf,hi9,hu,hz,hj=>by
  unfold Ztf.l0;rw [w64 (n:=(s.length:Int)-(i:Int)) (by omega) (by omega)];rcases Zqab s (a+i) with ⟨hd,hlen⟩ | ⟨hlt,hd⟩
  ·rw [Xa (by omega:(s.length:Int)-(i:Int)≤(a:Int)),hd]
   rfl
  ·rw [Xb (by omega:¬((s.length:Int)-(i:Int)≤(a:Int))),w64 (n:=(a:Int)+(i:Int)) (by omega) (by omega),show ((a:Int)+(i:Int))=((a+i:Nat):Int) by omega]
   simp only [Xf];rw [Zh hlt,hd];simp only [Yd,gn];have hb:=Zlp s[a+i];have ih:=fun u'=>ign s hs a ha f (i+1) u' j
   generalize s[a+i].toNat=b at hb ⊢;rw [Zei]
   by_cases h9:i=9∧1<b
   ·rw [Xa (by omega:(i:Int)=9),Xa (by omega:(1:Int)<(b:Int)),Xc h9]
    rfl
   ·rw [Xd h9,show (decide ((i:Int)=9)&&decide ((1:Int)<(b:Int)))=false by
     by_cases h:i=9
     ·rw [Xb (by omega:¬((1:Int)<(b:Int))),Yw]
     ·rw [Xb (by omega:¬((i:Int)=9))];rfl]
    have hb9:i=9→b≤1:=fun h=>by
     rcases Y7 1 b with h1 | h1
     ·exact absurd ⟨h,h1⟩ h9
     ·exact h1
    have hsl:=Zo7 (b:=b) (show i≤9 by omega) hu hb9
    have hv:intBits .or .u64 (u:Int) (shl .u64 (Yc .u64 (intBits .and .u8 (b:Int) 127)) (Yc .i64 (7*(i:Int))))=((u+b%128*128^i:Nat):Int):=by
     rw [Zrhb b hb,Zfh,show ((b%128:Nat):Int)%18446744073709551616=((b%128:Nat):Int) by omega,w64 (by omega) (by omega),show (7*(i:Int))=((7*i:Nat):Int) by omega,Zwfb (by omega) hb9,Zfib _ _ (by have:=Zvdb (show i≤9 by omega);omega) (Zigb (by omega) hb9),Znob hu]
    have hn:Zbc (Yc .i64 (7*(i:Int)))=some ():=Zdc (by rw [w64 (by omega) (by omega)];omega);simp only [Xf];rw [hn];simp only [Yd];rw [hv]
    by_cases h128:128≤b
    ·have hi8:i≤8:=by
      by_cases h:i=9
      ·have:=hb9 h;omega
      ·omega
     rw [Xa (by omega:((127:Int)<(b:Int))),Xc h128,Xe,Zs (by omega),show a+i+1=a+(i+1) by omega];exact ih _ (by omega) (by omega) (Zl1 hi8 hu) (fun _=>by omega) (by omega)
    ·rw [Xb (by omega:¬((127:Int)<(b:Int))),Xd h128,Xf,Zei]
     by_cases h0:b=0∧0<i
     ·rw [Xa (by omega:(b:Int)=0),Xa (by omega:(0:Int)<(i:Int)),Xc h0]
      rfl
     ·rw [Xd h0,show (decide ((b:Int)=0)&&decide ((0:Int)<(i:Int)))=false by
       by_cases h:b=0
       ·rw [Xb (by omega:¬((0:Int)<(i:Int))),Yw]
       ·rw [Xb (by omega:¬((b:Int)=0))];rfl]
      generalize u+b%128*128^i=v at hsl;have e2:shr .u64 (v:Int) 1=((v/2:Nat):Int):=Zxi .u64 v 1 (by decide);rw [Xf,Zdc (by omega:(0:Int)≤1)];simp only [Yd];rw [Zs (by omega),e2,Z4hb v hsl,w64 (n:=((v/2:Nat):Int)) (by omega) (by omega),Zei];unfold fin unz
      by_cases hp:v%2=1
      ·rw [Xa (by omega:((v%2:Nat):Int)=1),Xc hp,Zfob _ (by omega)]
       rfl
      ·rw [Xb (by omega:¬(((v%2:Nat):Int)=1)),Xd hp]
       rfl
section
variable (s:Str) (a:Nat) (ha:a<9223372036854775000)
include ha
theorem Zjz (hs:s.length≤140737488351232):Zc fun k=>Ztf k s (a:Int)=some (Zxd s a):=by
 refine Zc.ge 11 fun k hk=>?_
 have h:=ign s hs a ha 10 0 0 k rfl (by omega) (by omega) (fun h=>absurd h (by omega)) (by omega)
 have h:Ztf.l0 k s (a:Int) 0 0=some (Zxd s a):=h
 unfold Ztf
 rw [Xb (by omega:¬((a:Int)<0)),h]
 rfl
theorem Zuu (hs:s.length≤8000):Zc fun k=>Z9d k s (a:Int)=some (Zxd s a):=by
 refine Zc.ge 11 fun k hk=>?_
 have h:=sgn s (by omega) a ha 10 0 0 k rfl (by omega) (by omega) (fun h=>absurd h (by omega)) (by omega)
 have h:Z9d.l0 k s (a:Int) 0 0 0 0 0=some (.inr (Zxd s a)):=h
 unfold Z9d
 rw [Xb (by omega:¬(8000<(s.length:Int))),Xb (by omega:¬((a:Int)<0)),h]
 rfl
theorem Ze4 (hs:s.length≤140737488351232):Zc fun k=>Zqc k (s,((a:Int),false))=some (Zkb s a):=by
 refine (Zjz s a ha hs).mono fun k h=>?_
 unfold Zqc Zkb
 rw [h]
 rcases Zfl s a with ⟨n,a',e,g⟩ | ⟨c,hc,e⟩
 ·rw [e];rfl
 ·rw [e,Xd hc]
  simp only [Yd];rw [show (c != 0)=true by simpa using hc];rfl
theorem Zvu (hs:s.length≤8000):Zc fun k=>Zoc k (s,((a:Int),false))=some (Zkb s a):=by
 refine (Zuu s a ha hs).mono fun k h=>?_
 unfold Zoc Zkb
 rw [h]
 rcases Zfl s a with ⟨n,a',e,g⟩ | ⟨c,hc,e⟩
 ·rw [e];rfl
 ·rw [e,Xd hc]
  simp only [Yd];rw [show (c != 0)=true by simpa using hc];rfl
theorem Z16 (hs:s.length≤8000):Zc fun k=>Zoc k (s,((a:Int),true))=some (0,s,(a:Int),true):=by
 refine (Zuu s a ha hs).mono fun k h=>?_
 unfold Zoc
 rw [h]
 rfl
theorem Z1lb (hs:s.length≤140737488351232):∃(n:Int) (a':Nat),(Zc fun k=>Zqc k (s,((a:Int),true))=some (n,s,(a':Int),true))∧a'≤max a s.length:=by
 rcases Zfl s a with ⟨n,a',e,g⟩ | ⟨c,hc,e⟩
 ·refine ⟨n,a',(Zjz s a ha hs).mono fun k h=>?_,?_⟩
  ·unfold Zqc
   rw [h,e];rfl
  ·have:=g.le;omega
 ·refine ⟨0,a,(Zjz s a ha hs).mono fun k h=>?_,by omega⟩
  unfold Zqc;rw [h,e];simp only [Yd];rw [show (c != 0)=true by simpa using hc];rfl
end
end Go.Proofs.Qz
