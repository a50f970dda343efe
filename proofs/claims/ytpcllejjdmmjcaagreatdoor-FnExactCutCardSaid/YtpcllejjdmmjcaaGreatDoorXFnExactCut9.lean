/- What the law FnExactCut needs, part 10 of 15: the Lean functions of the Go functions that it reaches, with the proofs that the calls come to what they say, and plain facts about them. Conditions: those that each theorem states. Written by a session and by its programs (after the kit's printer). -/
import Derived.Laws.BitsLemmas
import Derived.Test.YtpcllejjdmmjcaaGreatDoorXFnExactCut5
import Derived.Test.YtpcllejjdmmjcaaGreatDoorXFnExactCut8
open Option renaming bind → Ya, bind_some → Yd
open Go.IntKind renaming wrap → Yb, bits → Ym, signed → Yt, max → Yda
open Go.Proofs.Tryz renaming prog → Yc, f183 → Y0
open Int renaming toNat_natCast → Ye, toNat → Yl, tmod_eq_emod_of_nonneg → Y1, tdiv_eq_ediv_of_nonneg → Yca
open BitVec renaming ofInt → Yf, ofInt_natCast → Yh, toNat_ofNat → Yi, toNat_and → Yaa
open Nat renaming mod_eq_of_lt → Yg, not_lt_zero → Yk, pow_succ → Yq, zero_add → Yr, le_refl → Yv, mul_comm → Yw, xor_assoc → Yz, add_assoc → Y6, lt_or_ge → Y7, mul_le_mul_right → Y8, xor_comm → Y9, add_comm → Yla, and_one_is_mod → Yma, div_lt_of_lt_mul → Yna, min_eq_left → Yoa, mul_assoc → Ypa, pow_le_pow_right → Yqa, pow_zero → Yra, sub_self → Ysa, xor_lt_two_pow → Yta, xor_zero → Yua
open List renaming length_append → Yj, append_assoc → Yn, drop_eq_getElem_cons → Yo, set → Yp, replicate → Yu, length_cons → Yy, drop_eq_nil_of_le → Y2, drop_length → Y3, drop_zero → Y4, getElem?_eq_getElem → Y5, drop_drop → Yea, getElem_mem → Yfa, length → Yga, length_drop → Yha, take_add_one → Yia, take_append_drop → Yja, take_length → Yka
open Bool renaming and_false → Ys, false_eq_true → Yx, eq_iff_iff → Yba
namespace Go.Proofs.Qz
open Go Go.RowKit
set_option linter.unusedVariables false
set_option linter.defProp false
def Z5.l0:Nat→List Int→Option ((List Int))
 | 0,_=>none
 | j+1,a1=>Ya (nz? 64) fun v2=>bif (Int.tmod ((a1.length):Int) 64) != 56 then Ya (Zs 1 a1 [0]) fun v3=>Z5.l0 j v3 else some a1
def Z5.l1:Nat→Int→Int→List Int→Option ((List Int))
 | 0,_,_,_=>none
 | j+1,a1,a2,a3=>bif decide (0≤a2) then Ya (Zwb (Yb .u64 a2)) fun v4=>Ya (Zs 1 a3 [(Yb .u8 (shr .u64 a1 (Yb .u64 a2)))]) fun v5=>Z5.l1 j a1 (Yb .i64 (a2-8)) v5 else some a3
def Z5.l2 (k:Nat):Nat→List Int→Int→List Int→Option ((List Int))
 | 0,_,_,_=>none
 | j+1,a1,a2,a3=>bif decide (a2<((a1.length):Int)) then let e4:=Yb .i64 (a2+64);Ya (Zob a1 a2 e4) fun v5=>Ya (Z8 k a3 (Znb v5)) fun v6=>Z5.l2 k j a1 e4 v6 else some a3
def Z5.l3:Nat→Int→List Int→List Int→Option ((List Int))
 | 0,_,_,_=>none
 | j+1,a1,a2,a3=>bif decide (a1<8) then Ya (at? a2 a1) fun v4=>Ya (at? a2 a1) fun v5=>Ya (Zwb 24) fun v6=>Ya (Zwb 16) fun v7=>Ya (Zwb 8) fun v8=>Ya (Zs 1 a3 [(Yb .u8 (shr .i64 v5 24)),(Yb .u8 (shr .i64 v5 16)),(Yb .u8 (shr .i64 v5 8)),(Yb .u8 v5)]) fun v9=>Z5.l3 j (Yb .i64 (a1+1)) a2 v9 else some a3
def Z5 (k:Nat) (a1:Str):Option (Str):=Ya (Z0w (a1.length) 1) fun v2=>Ya (Zs 1 (Zgb a1) [128]) fun v3=>Ya (Z5.l0 k v3) fun y4=>Ya (Z5.l1 k (Yb .u64 (Yb .i64 (8*((a1.length):Int)))) 56 y4) fun y5=>Ya (Zpu ) fun v6=>Ya (Z5.l2 k k y5 0 v6) fun y7=>Ya (Z5.l3 k 0 y7 []) fun y8=>some (Znb y8)
def Z5.con (k:Nat):Con:=Sig.con { ps:=[.val false .str (ros .str)],rs:=[.val false [.v .str]],ntmps:=78 } (fun x=>Z5 k x)
def Z5.cok (k:Nat):=cX (cC (Zpu.ok k) (cC (Z8.ok k) cN))
def Z5.l0.s (k:Nat):Summ:=lp 78 { tmps:=[(3,.one (.own 3))],slots:=[(3,.arr true 5 (.int .u8))],nb:=4 } [(.exit 0,{ tmps:=[(3,.one (.own 4))],slots:=[(4,.arr true 5 (.int .u8))],nb:=5 })] (fun j x=>Z5.l0 j x) k
def Z5.l0.ok (k:Nat):=(lA (Z5.cok k):Zj Yc _ (.loop (cO (cO (cL (cR (cR (cB Y0))))))) (Z5.l0.s k))
def Z5.l1.s (k:Nat):Summ:=lp 78 { tmps:=[(3,.one (.own 5)),(4,.one (.v (.int .u64))),(5,.one (.v (.int .i64)))],slots:=[(5,.arr true 5 (.int .u8))],nb:=6 } [(.exit 2,{ tmps:=[(3,.one (.own 6))],slots:=[(6,.arr true 5 (.int .u8))],nb:=7 })] (fun j x=>Z5.l1 j x.1 x.2.1 x.2.2) k
def Z5.l1.ok (k:Nat):=(lA (Z5.cok k):Zj Yc _ (.loop (cO (cO (cR (cL (cR (cR (cR (cR (cB Y0)))))))))) (Z5.l1.s k))
def Z5.l2.s (k:Nat):Summ:=lp 78 { tmps:=[(3,.one (.v (.sl (.int .u8)))),(6,.one (.own 8)),(7,.one (.v (.int .i64)))],slots:=[(8,.arr false 2 (.int .i64))],nb:=9 } [(.exit 4,{ tmps:=[(6,.one (.own 9))],slots:=[(9,.arr false 2 (.int .i64))],nb:=10 })] (fun j x=>Z5.l2 k j x.1 x.2.1 x.2.2) k
def Z5.l2.ok (k:Nat):=(lA (Z5.cok k):Zj Yc _ (.loop (cO (cO (cR (cL (cR (cR (cR (cR (cR (cR (cB Y0)))))))))))) (Z5.l2.s k))
def Z5.l3.s (k:Nat):Summ:=lp 78 { tmps:=[(6,.one (.own 11)),(8,.one (.own 12)),(9,.one (.v (.int .i64)))],slots:=[(11,.arr false 2 (.int .i64)),(12,.arr false 5 (.int .u8))],nb:=13 } [(.exit 6,{ tmps:=[(8,.one (.own 13))],slots:=[(13,.arr false 5 (.int .u8))],nb:=14 })] (fun j x=>Z5.l3 j x.1 x.2.1 x.2.2) k
def Z5.l3.ok (k:Nat):=(lA (Z5.cok k):Zj Yc _ (.loop (cO (cO (cR (cL (cR (cR (cR (cR (cR (cR (cR (cR (cB Y0)))))))))))))) (Z5.l3.s k))
theorem Z5.ok (k:Nat):Zf Yc 183 (Z5.con k):=fP (.two .auto (.two .auto (.two (.one (.sum (Z5.l0.s k))) (.two .auto (.two (.two .auto (.one (.sum (Z5.l1.s k)))) (.two .auto (.two (.two .auto (.one (.sum (Z5.l2.s k)))) (.two .auto (.two (.two .auto (.one (.sum (Z5.l3.s k)))) .auto))))))))) (Z5.cok k) Tryz.func183 (sC (Z5.l0.ok k) (sC (Z5.l1.ok k) (sC (Z5.l2.ok k) (sC (Z5.l3.ok k) sN))))
def Zks (k:Nat) (a1:Str):Option (Str):=bif decide (8000<((a1.length):Int)) then some ([]) else Ya (Z5 k a1) fun v2=>some v2
def Zks.con (k:Nat):Con:=Sig.con { ps:=[.val false .str (ros .str)],rs:=[.val false [.v .str]],ntmps:=8 } (fun x=>Zks k x)
theorem Zks.ok (k:Nat):Zf Yc 90 (Zks.con k):=fA (cX (cC (Z5.ok k) cN)) Tryz.func90
def Zye.l0:Nat→List Str→Str→Int→Option (Str)
 | 0,_,_,_=>none
 | j+1,a1,a2,a3=>bif decide (a3<((a1.length):Int)) then Ya (at? a1 a3) fun v4=>Ya (Zqc a2 v4) fun v5=>Zye.l0 j a1 v5 (Yb .i64 (a3+1)) else some a2
def Zye (k:Nat) (a1:List Str):Option (Str):=Ya (Zye.l0 k a1 [] 0) fun y2=>some y2
def Zye.con (k:Nat):Con:=Sig.con { ps:=[.val false (.sl .str) (ros (.sl .str))],rs:=[.val false [.v .str]],ntmps:=18 } (fun x=>Zye k x)
def Zye.cok (k:Nat):=cX cN
def Zye.l0.s (k:Nat):Summ:=lp 18 { tmps:=[(0,.one (.bor .str)),(3,.one (.v .str)),(4,.one (.v (.int .i64)))],slots:=[],nb:=0 } [(.exit 0,{ tmps:=[(3,.one (.v .str))],slots:=[],nb:=0 })] (fun j x=>Zye.l0 j x.1 x.2.1 x.2.2) k
def Zye.l0.ok (k:Nat):=(lA (Zye.cok k):Zj Yc _ (.loop (cO (cO (cR (cL (cR (cR (cB Tryz.f91)))))))) (Zye.l0.s k))
theorem Zye.ok (k:Nat):Zf Yc 91 (Zye.con k):=fP (.two .auto (.two .auto (.two (.two .auto (.one (.sum (Zye.l0.s k)))) .auto))) (Zye.cok k) Tryz.func91 (sC (Zye.l0.ok k) sN)
def Zao (k:Nat) (a1:List Str):Option (Str):=Ya (Ztc k a1) fun v2=>bif !v2 then some ([]) else Ya (Zye k a1) fun v3=>Ya (Zks k v3) fun v4=>some v4
def Zao.con (k:Nat):Con:=Sig.con { ps:=[.val false (.sl .str) (ros (.sl .str))],rs:=[.val false [.v .str]],ntmps:=9 } (fun x=>Zao k x)
theorem Zao.ok (k:Nat):Zf Yc 49 (Zao.con k):=fA (cX (cC (Ztc.ok k) (cC (Zks.ok k) (cC (Zye.ok k) cN)))) Tryz.func49
def Zsj (a1:G46):Option (Int×Int×Int×Int×Int×Str×List Int×List Int):=Ya (Zs 8 [] a1.2.2.2.2.2.2.1) fun v2=>some (1,0,0,0,0,[],v2,[])
def Zsj.con (k:Nat):Con:=Sig.con { ps:=[.val true T46 (ros T46)],rs:=[.val true [.v (.int .i64),.v (.int .i64),.v (.int .i64),.v (.int .i64),.v (.int .i64),.v .str,.own 2 (.int .i64),.own 2 (.int .i64)]],ntmps:=8 } (fun x=>Zsj x)
theorem Zsj.ok (k:Nat):Zf Yc 233 (Zsj.con k):=fA (cXr true false cN) Tryz.func233
def Zvq (a1:Int):Option (List Str×Int):=some ([],a1)
def Zvq.con (k:Nat):Con:=Sig.con { ps:=[.val false (.int .i64) (ros (.int .i64))],rs:=[.val true [.own 9 .str,.v (.int .i64)]],ntmps:=5 } (fun x=>Zvq x)
theorem Zvq.ok (k:Nat):Zf Yc 315 (Zvq.con k):=fA (cX cN) Tryz.func315
def Zns:Option (Str):=Ya (Ztg 1 8 8 0) fun v1=>some (Znb v1)
def Zns.con (k:Nat):Con:=Sig.con { ps:=[],rs:=[.val false [.v .str]],ntmps:=3 } (fun x=>Zns )
theorem Zns.ok (k:Nat):Zf Yc 180 (Zns.con k):=fA (cX cN) Tryz.func180
def Z1f.l0:Nat→Str→Str→Int→List Int→Option ((List Int))
 | 0,_,_,_,_=>none
 | j+1,a1,a2,a3,a4=>bif decide (a3<8) then Ya (at? a1 a3) fun v5=>Ya (at? a2 a3) fun v6=>Ya (at? a4 a3) fun v7=>Ya (at? a4 a3) fun v8=>Z1f.l0 j a1 a2 (Yb .i64 (a3+1)) (Yp a4 (Yl a3) (intBits .xor .u8 (v5.toNat:Int) (v6.toNat:Int))) else some a4
def Z1f (k:Nat) (a1:Str) (a2:Str):Option (Str):=bif (((a1.length):Int) != 8)||(((a2.length):Int) != 8) then some ([]) else Ya (Ztg 1 8 8 0) fun v3=>Ya (Z1f.l0 k a1 a2 0 v3) fun y4=>some (Znb y4)
def Z1f.con (k:Nat):Con:=Sig.con { ps:=[.val false .str (ros .str),.val false .str (ros .str)],rs:=[.val false [.v .str]],ntmps:=32 } (fun x=>Z1f k x.1 x.2)
def Z1f.cok (k:Nat):=cX cN
def Z1f.l0.s (k:Nat):Summ:=lp 32 { tmps:=[(0,.one (.v .str)),(1,.one (.v .str)),(5,.one (.own 1)),(6,.one (.v (.int .i64)))],slots:=[(1,.arr false 5 (.int .u8))],nb:=2 } [(.exit 0,{ tmps:=[(5,.one (.own 2))],slots:=[(2,.arr false 5 (.int .u8))],nb:=3 })] (fun j x=>Z1f.l0 j x.1 x.2.1 x.2.2.1 x.2.2.2) k
def Z1f.l0.ok (k:Nat):=(lA (Z1f.cok k):Zj Yc _ (.loop (cO (cO (cR (cL (cR (cR (cR (cB Tryz.f182))))))))) (Z1f.l0.s k))
theorem Z1f.ok (k:Nat):Zf Yc 182 (Z1f.con k):=fP (.two .auto (.two .auto (.two .auto (.two (.two .auto (.one (.sum (Z1f.l0.s k)))) .auto)))) (Z1f.cok k) Tryz.func182 (sC (Z1f.l0.ok k) sN)
def Zcl (k:Nat) (a1:G52) (a2:Str):Option (Str):=bif a1.1==1 then Ya (Zns ) fun v3=>some v3 else bif a1.1==2 then some a1.2.2.2 else bif a1.1==3 then some a2 else Ya (Z1f k a2 a1.2.2.2) fun v4=>some v4
def Zcl.con (k:Nat):Con:=Sig.con { ps:=[.val true T52 (ros T52),.val false .str (ros .str)],rs:=[.val false [.v .str]],ntmps:=21 } (fun x=>Zcl k x.1 x.2)
theorem Zcl.ok (k:Nat):Zf Yc 305 (Zcl.con k):=fA (cX (cC (Zns.ok k) (cC (Z1f.ok k) cN))) Tryz.func305
def Zgf.l0 (k:Nat):Nat→List Str→List G52→Int→List Str→Option ((List Str))
 | 0,_,_,_,_=>none
 | j+1,a1,a2,a3,a4=>bif decide (a3<((a2.length):Int)) then Ya (at? a2 a3) fun v5=>let e6:=Yb .i64 (a3+1);bif v5.1 != 5 then Ya (at? a2 a3) fun v7=>Ya (at? a2 a3) fun v8=>Ya (at? a2 a3) fun v9=>Ya (at? a1 v9.2.2.1) fun v10=>Ya (Zcl k v8 v10) fun v11=>let e12:=at? a4 v7.2.1;Ya (e12) fun v13=>Ya (e12) fun v14=>Zgf.l0 k j a1 a2 e6 (Yp a4 (Yl v7.2.1) v11) else Zgf.l0 k j a1 a2 e6 a4 else some a4
def Zgf (k:Nat) (a1:List Str) (a2:List G52):Option (List Str):=Ya (Zs 16 [] a1) fun v3=>Ya (Zgf.l0 k k a1 a2 0 v3) fun y4=>some y4
def Zgf.con (k:Nat):Con:=Sig.con { ps:=[.val false (.sl .str) (ros (.sl .str)),.val false (.sl T52) (ros (.sl T52))],rs:=[.val false [.own 9 .str]],ntmps:=43 } (fun x=>Zgf k x.1 x.2)
def Zgf.cok (k:Nat):=cX (cC (Zcl.ok k) cN)
def Zgf.l0.s (k:Nat):Summ:=lp 43 { tmps:=[(0,.one (.bor .str)),(1,.one (.bor T52)),(5,.one (.own 2)),(6,.one (.v (.int .i64)))],slots:=[(2,.arr false 9 .str)],nb:=3 } [(.exit 0,{ tmps:=[(5,.one (.own 3))],slots:=[(3,.arr false 9 .str)],nb:=4 })] (fun j x=>Zgf.l0 k j x.1 x.2.1 x.2.2.1 x.2.2.2) k
def Zgf.l0.ok (k:Nat):=(lA (Zgf.cok k):Zj Yc _ (.loop (cO (cO (cR (cL (cR (cR (cB Tryz.f316)))))))) (Zgf.l0.s k))
theorem Zgf.ok (k:Nat):Zf Yc 316 (Zgf.con k):=fP (.two .auto (.two .auto (.two (.two .auto (.one (.sum (Zgf.l0.s k)))) .auto))) (Zgf.cok k) Tryz.func316 (sC (Zgf.l0.ok k) sN)
def Zls (k:Nat) (a1:List Str) (a2:List G52):Option (List Str×Int):=bif (decide (400<((a1.length):Int)))||(decide (400<((a2.length):Int))) then Ya (Zvq 2) fun v3=>some (v3.1,v3.2) else Ya (Ztc k a1) fun v4=>bif !v4 then Ya (Zvq 1) fun v5=>some (v5.1,v5.2) else Ya (Zt k a2 ((a1.length):Int)) fun v6=>bif v6 != 0 then Ya (Zvq v6) fun v7=>some (v7.1,v7.2) else Ya (Zgf k a1 a2) fun v8=>some (v8,0)
def Zls.con (k:Nat):Con:=Sig.con { ps:=[.val false (.sl .str) (ros (.sl .str)),.val false (.sl T52) (ros (.sl T52))],rs:=[.val true [.own 9 .str,.v (.int .i64)]],ntmps:=31 } (fun x=>Zls k x.1 x.2)
theorem Zls.ok (k:Nat):Zf Yc 302 (Zls.con k):=fA (cX (cC (Ztc.ok k) (cC (Zt.ok k) (cC (Zvq.ok k) (cC (Zgf.ok k) cN))))) Tryz.func302
def Z8m (k:Nat) (a1:List Str) (a2:List G52):Option (List Str×Int):=Ya (Zls k a1 a2) fun v3=>some (v3.1,v3.2)
def Z8m.con (k:Nat):Con:=Sig.con { ps:=[.val false (.sl .str) (ros (.sl .str)),.val false (.sl T52) (ros (.sl T52))],rs:=[.val true [.own 9 .str,.v (.int .i64)]],ntmps:=8 } (fun x=>Z8m k x.1 x.2)
theorem Z8m.ok (k:Nat):Zf Yc 277 (Z8m.con k):=fA (cX (cC (Zls.ok k) cN)) Tryz.func277
def Zxq (k:Nat) (a1:G28) (a2:G46):Option (List Zlc×Str×List Int×Int):=bif a2.1 != 2 then Ya (Zlg 10) fun v3=>some (v3.1,v3.2.1,v3.2.2.1,v3.2.2.2) else Ya (Zjc k a1 a2) fun v4=>Ya (Z8d k a1) fun v5=>Ya (Z8m k v5 v4) fun v6=>Ya (Zsj a2) fun v7=>Ya (Z0e k a1 v7) fun v8=>bif ((v4.length):Int) != a2.2.2.1 then some (v8,[],[],4) else bif v6.2 != 0 then some (v8,[],[],5) else Ya (Zao k v6.1) fun v9=>bif !(v9==a2.2.2.2.2.2.1) then some (v8,[],[],5) else Ya (Zqj k v4 a1.1) fun v10=>Ya (Zle k v10.1) fun v11=>bif decide (a2.2.2.2.1<v11) then some (v8,[],[],11) else Ya (Zrj a2) fun v12=>Ya (Z0e k a1 (3,v12.2)) fun v13=>Ya (Zs 32 ([(true,(0,[]))]) v13) fun v14=>some (v14,[],[],0)
def Zxq.con (k:Nat):Con:=Sig.con { ps:=[.val true T28 (ros T28),.val true T46 (ros T46)],rs:=[.val true [.own 151 Z6b,.v .str,.own 2 (.int .i64),.v (.int .i64)]],ntmps:=68 } (fun x=>Zxq k x.1 x.2)
theorem Zxq.ok (k:Nat):Zf Yc 231 (Zxq.con k):=fA (cXr true false (cC (Zle.ok k) (cC (Zqj.ok k) (cC (Zao.ok k) (cC (Zlg.ok k) (cC (Z8d.ok k) (cC (Zrj.ok k) (cC (Z0e.ok k) (cC (Zsj.ok k) (cC (Zjc.ok k) (cC (Z8m.ok k) cN))))))))))) Tryz.func231
def Ztj (k:Nat) (a1:G28) (a2:G46):Option (List Zcd):=Ya (Zjc k a1 a2) fun v3=>Ya (Zqj k v3 a1.1) fun v4=>some v4.1
def Ztj.con (k:Nat):Con:=Sig.con { ps:=[.val true T28 (ros T28),.val true T46 (ros T46)],rs:=[.val false [.own 139 Z5b]],ntmps:=12 } (fun x=>Ztj k x.1 x.2)
theorem Ztj.ok (k:Nat):Zf Yc 278 (Ztj.con k):=fA (cXr true false (cC (Zqj.ok k) (cC (Zjc.ok k) cN))) Tryz.func278
def Znd.l0:Nat→List Zcd→Int→Int→Int→Option (Unit ⊕ Int)
 | 0,_,_,_,_=>none
 | j+1,a1,a2,a3,a4=>bif decide (a4<a2) then Ya (at? a1 a4) fun v5=>let e6:=Yb .i64 (a4+1);bif v5.1==1 then Ya (at? a1 a4) fun v7=>bif v7.2.2.1==a3 then Ya (at? a1 a4) fun v8=>some (.inr (v8.2.2.2)) else Znd.l0 j a1 a2 a3 e6 else Znd.l0 j a1 a2 a3 e6 else some (.inl ())
def Znd (k:Nat) (a1:List Zcd) (a2:Int) (a3:Int):Option (Int):=Ya (Znd.l0 k a1 a2 a3 0) fun
  | .inl y4=>some (-1)
  | .inr y5=>some y5
def Znd.con (k:Nat):Con:=Sig.con { ps:=[.val false (.sl Z5b) (ros (.sl Z5b)),.val false (.int .i64) (ros (.int .i64)),.val false (.int .i64) (ros (.int .i64))],rs:=[.val false [.v (.int .i64)]],ntmps:=33 } (fun x=>Znd k x.1 x.2.1 x.2.2)
def Znd.cok (k:Nat):=cX cN
def Znd.l0.s (k:Nat):Summ:=lp 33 { tmps:=[(0,.one (.bor Z5b)),(1,.one (.v (.int .i64))),(2,.one (.v (.int .i64))),(7,.one (.v (.int .i64)))],slots:=[],nb:=0 } [(.exit 0,{ tmps:=[],slots:=[],nb:=0 }),(.ret,{ tmps:=[(6,.one (.v (.int .i64)))],slots:=[],nb:=0 })] (fun j x=>Znd.l0 j x.1 x.2.1 x.2.2.1 x.2.2.2) k
def Znd.l0.ok (k:Nat):=(lA (Znd.cok k):Zj Yc _ (.loop (cO (cO (cR (cL (cR (cB Tryz.f303))))))) (Znd.l0.s k))
theorem Znd.ok (k:Nat):Zf Yc 303 (Znd.con k):=fP (.two .auto (.two (.two .auto (.one (.sum (Znd.l0.s k)))) .auto)) (Znd.cok k) Tryz.func303 (sC (Znd.l0.ok k) sN)
def Zwq (k:Nat) (a1:G28) (a2:G46) (a3:Int):Option (Str):=Ya (at? a2.2.2.2.2.2.2.2 a3) fun v4=>Ya (Z5g a1 v4) fun v5=>Ya (Ztb k a1.2 v5) fun v6=>some v6
def Zwq.con (k:Nat):Con:=Sig.con { ps:=[.val true T28 (ros T28),.val true T46 (ros T46),.val false (.int .i64) (ros (.int .i64))],rs:=[.val false [.v .str]],ntmps:=17 } (fun x=>Zwq k x.1 x.2.1 x.2.2)
theorem Zwq.ok (k:Nat):Zf Yc 304 (Zwq.con k):=fA (cXr true false (cC (Ztb.ok k) (cC (Z5g.ok k) cN))) Tryz.func304
def Zan (k:Nat) (a1:G28) (a2:G46) (a3:List Zcd) (a4:G52):Option (Str):=bif (a4.1==3)||(a4.1==4) then Ya (Ztb k a1.2 (Yb .i64 (3+a4.2.2.1))) fun v5=>Ya (Znd k a3 a2.2.2.2.2.1 a4.2.2.1) fun v6=>bif decide (0≤v6) then Ya (Zwq k a1 a2 v6) fun v7=>Ya (Zcl k a4 v7) fun v8=>some v8 else Ya (Zcl k a4 v5) fun v9=>some v9 else Ya (Zcl k a4 []) fun v10=>some v10
def Zan.con (k:Nat):Con:=Sig.con { ps:=[.val true T28 (ros T28),.val true T46 (ros T46),.val false (.sl Z5b) (ros (.sl Z5b)),.val true T52 (ros T52)],rs:=[.val false [.v .str]],ntmps:=40 } (fun x=>Zan k x.1 x.2.1 x.2.2.1 x.2.2.2)
theorem Zan.ok (k:Nat):Zf Yc 279 (Zan.con k):=fA (cXr true false (cC (Ztb.ok k) (cC (Znd.ok k) (cC (Zwq.ok k) (cC (Zcl.ok k) cN))))) Tryz.func279
def Z0l (k:Nat) (a1:Int) (a2:Int) (a3:Str):Option (Str):=Ya (Zfb a1 0 1000000) fun v4=>bif !v4 then some ([]) else Ya (Zfb a2 0 39) fun v5=>bif (!v5)||(((a3.length):Int) != 8) then some ([]) else Ya (Z8b k a1) fun v6=>Ya (Z8b k a2) fun v7=>Ya (Zqc v6 v7) fun v8=>Ya (Zzi k a3) fun v9=>Ya (Zqc v8 v9) fun v10=>Ya (Z7k k v10) fun v11=>some v11
def Z0l.con (k:Nat):Con:=Sig.con { ps:=[.val false (.int .i64) (ros (.int .i64)),.val false (.int .i64) (ros (.int .i64)),.val false .str (ros .str)],rs:=[.val false [.v .str]],ntmps:=29 } (fun x=>Z0l k x.1 x.2.1 x.2.2)
theorem Z0l.ok (k:Nat):Zf Yc 280 (Z0l.con k):=fA (cX (cC (Zfb.ok k) (cC (Z8b.ok k) (cC (Zzi.ok k) (cC (Z7k.ok k) cN))))) Tryz.func280
def Zfg.j0 (k:Nat) (a1:Int) (a2:List Str) (a3:List Zq) (a4:Int) (a5:Int) (a6:Int) (a7:Int) (a8:Int) (a9:Str) (a10:List Int) (a11:List Int) (a12:Int) (a13:Str) (a14:Int) (a15:Int) (a16:Int) (a17:Int) (a18:List Zcd):Option ((Int×Str×Int×Int×Int×Int)):=let e19:=(a1,(a2,a3));bif a14==1 then Ya (at? a11 a17) fun v20=>Ya (Z5g e19 v20) fun v21=>some (v21,a13,a14,a15,a16,a17) else let e22:=(a4,(a5,(a6,(a7,(a8,(a9,(a10,a11)))))));Ya (Zjc k e19 e22) fun v23=>Ya (Z9c k v23) fun v24=>Ya (at? v24 a15) fun v25=>Ya (at? v24 a15) fun v26=>Ya (Zan k e19 e22 a18 v26) fun v27=>some (a12,v27,a14,a15,a16,a17)
def Zfg (k:Nat) (a1:G28) (a2:G46):Option (List Zlc×Str×List Int×Int):=bif a2.1 != 5 then Ya (Zlg 10) fun v3=>some (v3.1,v3.2.1,v3.2.2.1,v3.2.2.2) else Ya (Ztj k a1 a2) fun v4=>bif decide (((v4.length):Int)≤a2.2.2.2.2.1) then Ya (Zsj a2) fun v5=>Ya (Z0e k a1 v5) fun v6=>some (v6,[],[0],0) else let e7:=at? v4 a2.2.2.2.2.1;Ya (e7) fun v8=>Ya (e7) fun v9=>let e10:=Yb .i64 (3+v9.2.2.1);Ya (Ztb k a1.2 e10) fun v11=>Ya (Zfg.j0 k a1.1 a1.2.1 a1.2.2 a2.1 a2.2.1 a2.2.2.1 a2.2.2.2.1 a2.2.2.2.2.1 a2.2.2.2.2.2.1 a2.2.2.2.2.2.2.1 a2.2.2.2.2.2.2.2 e10 v11 v9.1 v9.2.1 v9.2.2.1 v9.2.2.2 v4) fun y12=>Ya (Zrj a2) fun v13=>Ya (Z0l k a2.2.2.2.2.1 y12.1 y12.2.1) fun v14=>let e15:=Yb .i64 (a2.2.2.2.2.1+1);Ya (Z0e k a1 (v13.1,(v13.2.1,(v13.2.2.1,(v13.2.2.2.1,(e15,v13.2.2.2.2.2)))))) fun v16=>let e17:=(true,(0,[]));Ya (Zs 32 [(false,(2,v14)),e17,(false,(y12.1,y12.2.1)),e17] v16) fun v18=>some (v18,[],[(Yb .i64 (((v4.length):Int)-e15))],0)
def Zfg.con (k:Nat):Con:=Sig.con { ps:=[.val true T28 (ros T28),.val true T46 (ros T46)],rs:=[.val true [.own 151 Z6b,.v .str,.own 2 (.int .i64),.v (.int .i64)]],ntmps:=99 } (fun x=>Zfg k x.1 x.2)
def Zfg.cok (k:Nat):=cXr true false (cC (Zlg.ok k) (cC (Z9c.ok k) (cC (Ztb.ok k) (cC (Zrj.ok k) (cC (Z0e.ok k) (cC (Zsj.ok k) (cC (Zjc.ok k) (cC (Z5g.ok k) (cC (Ztj.ok k) (cC (Zan.ok k) (cC (Z0l.ok k) cN)))))))))))
def Zfg.j0.s (k:Nat):Summ:=lq 99 { tmps:=[(2,.eptr [.v (.int .i64),.bor .str,.bor Zp]),(3,.eptr [.v (.int .i64),.v (.int .i64),.v (.int .i64),.v (.int .i64),.v (.int .i64),.v .str,.bor (.int .i64),.bor (.int .i64)]),(5,.one (.own 3)),(7,.one (.ptr 2 0)),(8,.one (.v (.int .i64))),(9,.one (.v .str))],slots:=[(2,.box 139 [.v (.int .i64),.v (.int .i64),.v (.int .i64),.v (.int .i64)]),(3,.arr false 139 Z5b)],nb:=4 } [(.nrm,{ tmps:=[(8,.one (.v (.int .i64))),(9,.one (.v .str))],slots:=[(2,.box 139 [.v (.int .i64),.v (.int .i64),.v (.int .i64),.v (.int .i64)])],nb:=4 })] (fun x=>Zfg.j0 k x.1 x.2.1 x.2.2.1 x.2.2.2.1 x.2.2.2.2.1 x.2.2.2.2.2.1 x.2.2.2.2.2.2.1 x.2.2.2.2.2.2.2.1 x.2.2.2.2.2.2.2.2.1 x.2.2.2.2.2.2.2.2.2.1 x.2.2.2.2.2.2.2.2.2.2.1 x.2.2.2.2.2.2.2.2.2.2.2.1 x.2.2.2.2.2.2.2.2.2.2.2.2.1 x.2.2.2.2.2.2.2.2.2.2.2.2.2.1 x.2.2.2.2.2.2.2.2.2.2.2.2.2.2.1 x.2.2.2.2.2.2.2.2.2.2.2.2.2.2.2.1 x.2.2.2.2.2.2.2.2.2.2.2.2.2.2.2.2.1 x.2.2.2.2.2.2.2.2.2.2.2.2.2.2.2.2.2)
def Zfg.j0.ok (k:Nat):=(jA (Zfg.cok k):Zj Yc _ (cL (cR (cR (cR (cR (cR (cR (cR (cR (cB Tryz.f234)))))))))) (Zfg.j0.s k))
theorem Zfg.ok (k:Nat):Zf Yc 234 (Zfg.con k):=fP (.two .auto (.two .auto (.two .auto (.two .auto (.two .auto (.two .auto (.two .auto (.two .auto (.two (.sum (Zfg.j0.s k)) .auto))))))))) (Zfg.cok k) Tryz.func234 (sC (Zfg.j0.ok k) sN)
def Z1e.l0 (k:Nat):Nat→Int→List Str→List Zq→Int→Int→Int→Int→Int→Str→List Int→List Int→Int→List Zcd→List G52→List Str→Option ((List Str))
 | 0,_,_,_,_,_,_,_,_,_,_,_,_,_,_,_=>none
 | j+1,a1,a2,a3,a4,a5,a6,a7,a8,a9,a10,a11,a12,a13,a14,a15=>bif decide (a12<((a13.length):Int)) then Ya (at? a13 a12) fun v16=>Ya (at? a13 a12) fun v17=>let e18:=Yb .i64 (a12+1);bif (v17.1==2)&&(decide (a8≤a12)) then Ya (at? a13 a12) fun v19=>Ya (at? a13 a12) fun v20=>Ya (at? a13 a12) fun v21=>Ya (at? a13 a12) fun v22=>let e23:=at? a14 v22.2.1;Ya (e23) fun v24=>Ya (e23) fun v25=>Ya (Zan k (a1,(a2,a3)) (a4,(a5,(a6,(a7,(a8,(a9,(a10,a11))))))) a13 v25) fun v26=>let e27:=at? a15 v20.2.2.1;Ya (e27) fun v28=>Ya (e27) fun v29=>Z1e.l0 k j a1 a2 a3 a4 a5 a6 a7 a8 a9 a10 a11 e18 a13 a14 (Yp a15 (Yl v20.2.2.1) v26) else Z1e.l0 k j a1 a2 a3 a4 a5 a6 a7 a8 a9 a10 a11 e18 a13 a14 a15 else some a15
def Z1e (k:Nat) (a1:G28) (a2:G46):Option (List Str):=Ya (Z8d k a1) fun v3=>Ya (Zjc k a1 a2) fun v4=>bif a2.1==4 then Ya (Z8m k v3 v4) fun v5=>some v5.1 else bif a2.1 != 5 then some v3 else Ya (Ztj k a1 a2) fun v6=>Ya (Z9c k v4) fun v7=>Ya (Zs 16 [] v3) fun v8=>Ya (Z1e.l0 k k a1.1 a1.2.1 a1.2.2 a2.1 a2.2.1 a2.2.2.1 a2.2.2.2.1 a2.2.2.2.2.1 a2.2.2.2.2.2.1 a2.2.2.2.2.2.2.1 a2.2.2.2.2.2.2.2 0 v6 v7 v8) fun y9=>some y9
def Z1e.con (k:Nat):Con:=Sig.con { ps:=[.val true T28 (ros T28),.val true T46 (ros T46)],rs:=[.val false [.own 9 .str]],ntmps:=73 } (fun x=>Z1e k x.1 x.2)
def Z1e.cok (k:Nat):=cXr true false (cC (Z8d.ok k) (cC (Z9c.ok k) (cC (Zjc.ok k) (cC (Z8m.ok k) (cC (Ztj.ok k) (cC (Zan.ok k) cN))))))
def Z1e.l0.s (k:Nat):Summ:=lp 73 { tmps:=[(2,.eptr [.v (.int .i64),.bor .str,.bor Zp]),(3,.eptr [.v (.int .i64),.v (.int .i64),.v (.int .i64),.v (.int .i64),.v (.int .i64),.v .str,.bor (.int .i64),.bor (.int .i64)]),(7,.one (.own 6)),(8,.one (.own 7)),(9,.one (.own 8)),(10,.one (.v (.int .i64)))],slots:=[(6,.arr false 139 Z5b),(7,.arr false 52 T52),(8,.arr false 9 .str)],nb:=9 } [(.exit 0,{ tmps:=[(9,.one (.own 9))],slots:=[(9,.arr false 9 .str)],nb:=10 })] (fun j x=>Z1e.l0 k j x.1 x.2.1 x.2.2.1 x.2.2.2.1 x.2.2.2.2.1 x.2.2.2.2.2.1 x.2.2.2.2.2.2.1 x.2.2.2.2.2.2.2.1 x.2.2.2.2.2.2.2.2.1 x.2.2.2.2.2.2.2.2.2.1 x.2.2.2.2.2.2.2.2.2.2.1 x.2.2.2.2.2.2.2.2.2.2.2.1 x.2.2.2.2.2.2.2.2.2.2.2.2.1 x.2.2.2.2.2.2.2.2.2.2.2.2.2.1 x.2.2.2.2.2.2.2.2.2.2.2.2.2.2) k
def Z1e.l0.ok (k:Nat):=(lA (Z1e.cok k):Zj Yc _ (.loop (cO (cO (cR (cL (cR (cR (cR (cR (cR (cR (cR (cR (cB Tryz.f235)))))))))))))) (Z1e.l0.s k))
theorem Z1e.ok (k:Nat):Zf Yc 235 (Z1e.con k):=fP (.two .auto (.two .auto (.two .auto (.two .auto (.two .auto (.two .auto (.two .auto (.two .auto (.two (.two .auto (.one (.sum (Z1e.l0.s k)))) .auto))))))))) (Z1e.cok k) Tryz.func235 (sC (Z1e.l0.ok k) sN)
def Zke.l0:Nat→List G52→Int→Int→Option (Int)
 | 0,_,_,_=>none
 | j+1,a1,a2,a3=>bif (decide (a3<((a1.length):Int)))&&(decide (((a1.length):Int)≤20)) then Ya (at? a1 a3) fun v4=>let e5:=Yb .i64 (a3+1);bif v4.1==5 then Zke.l0 j a1 e5 e5 else Zke.l0 j a1 a2 e5 else some a2
def Zke (k:Nat) (a1:List G52):Option (Int):=Ya (Zke.l0 k a1 0 0) fun y2=>some y2
def Zke.con (k:Nat):Con:=Sig.con { ps:=[.val false (.sl T52) (ros (.sl T52))],rs:=[.val false [.v (.int .i64)]],ntmps:=25 } (fun x=>Zke k x)
def Zke.cok (k:Nat):=cX cN
def Zke.l0.s (k:Nat):Summ:=lp 25 { tmps:=[(0,.one (.bor T52)),(3,.one (.v (.int .i64))),(4,.one (.v (.int .i64)))],slots:=[],nb:=0 } [(.exit 0,{ tmps:=[(3,.one (.v (.int .i64)))],slots:=[],nb:=0 })] (fun j x=>Zke.l0 j x.1 x.2.1 x.2.2) k
def Zke.l0.ok (k:Nat):=(lA (Zke.cok k):Zj Yc _ (.loop (cO (cO (cR (cL (cR (cR (cB Tryz.f281)))))))) (Zke.l0.s k))
theorem Zke.ok (k:Nat):Zf Yc 281 (Zke.con k):=fP (.two .auto (.two .auto (.two (.two .auto (.one (.sum (Zke.l0.s k)))) .auto))) (Zke.cok k) Tryz.func281 (sC (Zke.l0.ok k) sN)
def Z6g.j0 (k:Nat) (a1:Int) (a2:List Str) (a3:List Zq) (a4:Int) (a5:Int) (a6:Int) (a7:Int) (a8:Int) (a9:Str) (a10:List Int) (a11:List Int) (a12:Int):Option (Int):=bif a4==5 then Ya (Ztj k (a1,(a2,a3)) (a4,(a5,(a6,(a7,(a8,(a9,(a10,a11)))))))) fun v13=>some (Yb .i64 (((v13.length):Int)-a8)) else some a12
def Z6g (k:Nat) (a1:G28) (a2:G46):Option (List Zlc×Str×List Int×Int):=Ya (Zjc k a1 a2) fun v3=>Ya (Z6g.j0 k a1.1 a1.2.1 a1.2.2 a2.1 a2.2.1 a2.2.2.1 a2.2.2.2.1 a2.2.2.2.2.1 a2.2.2.2.2.2.1 a2.2.2.2.2.2.2.1 a2.2.2.2.2.2.2.2 0) fun y4=>Ya (Zke k v3) fun v5=>Ya (Z7d k a2.2.2.2.2.2.2.1 a2.2.2.2.2.2.2.2) fun v6=>some ([],[],[a2.1,a2.2.1,((v3.length):Int),v5,y4,((v6.length):Int)],0)
def Z6g.con (k:Nat):Con:=Sig.con { ps:=[.val true T28 (ros T28),.val true T46 (ros T46)],rs:=[.val true [.own 151 Z6b,.v .str,.own 2 (.int .i64),.v (.int .i64)]],ntmps:=37 } (fun x=>Z6g k x.1 x.2)
def Z6g.cok (k:Nat):=cXr true false (cC (Zjc.ok k) (cC (Ztj.ok k) (cC (Zke.ok k) (cC (Z7d.ok k) cN))))
def Z6g.j0.s (k:Nat):Summ:=lq 37 { tmps:=[(2,.eptr [.v (.int .i64),.bor .str,.bor Zp]),(3,.eptr [.v (.int .i64),.v (.int .i64),.v (.int .i64),.v (.int .i64),.v (.int .i64),.v .str,.bor (.int .i64),.bor (.int .i64)]),(6,.one (.v (.int .i64)))],slots:=[],nb:=2 } [(.nrm,{ tmps:=[(6,.one (.v (.int .i64)))],slots:=[],nb:=2 })] (fun x=>Z6g.j0 k x.1 x.2.1 x.2.2.1 x.2.2.2.1 x.2.2.2.2.1 x.2.2.2.2.2.1 x.2.2.2.2.2.2.1 x.2.2.2.2.2.2.2.1 x.2.2.2.2.2.2.2.2.1 x.2.2.2.2.2.2.2.2.2.1 x.2.2.2.2.2.2.2.2.2.2.1 x.2.2.2.2.2.2.2.2.2.2.2)
def Z6g.j0.ok (k:Nat):=(jA (Z6g.cok k):Zj Yc _ (cL (cR (cR (cR (cB Tryz.f236))))) (Z6g.j0.s k))
theorem Z6g.ok (k:Nat):Zf Yc 236 (Z6g.con k):=fP (.two .auto (.two .auto (.two .auto (.two (.sum (Z6g.j0.s k)) .auto)))) (Z6g.cok k) Tryz.func236 (sC (Z6g.j0.ok k) sN)
def Zhf.l0 (k:Nat):Nat→Int→List Str→List Zq→Int→Int→Int→Int→Int→Str→List Int→List Int→Int→List Zlc→Option ((List Zlc))
 | 0,_,_,_,_,_,_,_,_,_,_,_,_,_=>none
 | j+1,a1,a2,a3,a4,a5,a6,a7,a8,a9,a10,a11,a12,a13=>bif decide (a12<((a11.length):Int)) then Ya (at? a11 a12) fun v14=>Ya (Z5g (a1,(a2,a3)) v14) fun v15=>Ya (Ztb k (a2,a3) v15) fun v16=>let e17:=Yb .i64 (a12+1);bif !(v16==[]) then Ya (Zs 32 a13 ([(false,(v15,[]))])) fun v18=>Zhf.l0 k j a1 a2 a3 a4 a5 a6 a7 a8 a9 a10 a11 e17 v18 else Zhf.l0 k j a1 a2 a3 a4 a5 a6 a7 a8 a9 a10 a11 e17 a13 else some a13
def Zhf (k:Nat) (a1:G28) (a2:G46):Option (List Zlc):=Ya (Zjc k a1 a2) fun v3=>Ya (Zke k v3) fun v4=>Ya (Zhf.l0 k k a1.1 a1.2.1 a1.2.2 a2.1 a2.2.1 a2.2.2.1 a2.2.2.2.1 a2.2.2.2.2.1 a2.2.2.2.2.2.1 a2.2.2.2.2.2.2.1 a2.2.2.2.2.2.2.2 (Yb .i64 (a2.2.2.2.1+v4)) []) fun y5=>bif decide (0<((y5.length):Int)) then Ya (Zs 32 y5 ([(true,(0,[]))])) fun v6=>some v6 else some y5
def Zhf.con (k:Nat):Con:=Sig.con { ps:=[.val true T28 (ros T28),.val true T46 (ros T46)],rs:=[.val false [.own 151 Z6b]],ntmps:=50 } (fun x=>Zhf k x.1 x.2)
def Zhf.cok (k:Nat):=cXr true false (cC (Ztb.ok k) (cC (Zjc.ok k) (cC (Z5g.ok k) (cC (Zke.ok k) cN))))
def Zhf.l0.s (k:Nat):Summ:=lp 50 { tmps:=[(2,.eptr [.v (.int .i64),.bor .str,.bor Zp]),(3,.eptr [.v (.int .i64),.v (.int .i64),.v (.int .i64),.v (.int .i64),.v (.int .i64),.v .str,.bor (.int .i64),.bor (.int .i64)]),(5,.one (.own 2)),(7,.one (.v (.int .i64)))],slots:=[(2,.arr false 151 Z6b)],nb:=3 } [(.exit 0,{ tmps:=[(5,.one (.own 3))],slots:=[(3,.arr false 151 Z6b)],nb:=4 })] (fun j x=>Zhf.l0 k j x.1 x.2.1 x.2.2.1 x.2.2.2.1 x.2.2.2.2.1 x.2.2.2.2.2.1 x.2.2.2.2.2.2.1 x.2.2.2.2.2.2.2.1 x.2.2.2.2.2.2.2.2.1 x.2.2.2.2.2.2.2.2.2.1 x.2.2.2.2.2.2.2.2.2.2.1 x.2.2.2.2.2.2.2.2.2.2.2.1 x.2.2.2.2.2.2.2.2.2.2.2.2) k
def Zhf.l0.ok (k:Nat):=(lA (Zhf.cok k):Zj Yc _ (.loop (cO (cO (cR (cL (cR (cR (cR (cB Tryz.f286))))))))) (Zhf.l0.s k))
theorem Zhf.ok (k:Nat):Zf Yc 286 (Zhf.con k):=fP (.two .auto (.two .auto (.two .auto (.two (.two .auto (.one (.sum (Zhf.l0.s k)))) .auto)))) (Zhf.cok k) Tryz.func286 (sC (Zhf.l0.ok k) sN)
def Z7m (k:Nat) (a1:Str) (a2:Int):Option (Bool×Int×Str):=Ya (Z8k k a1) fun v3=>Ya (Zdc k (v3.1,(0,false))) fun v4=>Ya (Zdc k v4.2) fun v5=>Ya (Zwh k v5.2) fun v6=>bif v6.2.2.2||(a1==[]) then some (true,0,[]) else Ya (Z0l k v4.1 v5.1 v6.1) fun v7=>bif (!(v7==a1))||(v4.1 != a2) then some (true,0,[]) else some (false,v5.1,v6.1)
def Z7m.con (k:Nat):Con:=Sig.con { ps:=[.val false .str (ros .str),.val false (.int .i64) (ros (.int .i64))],rs:=[.val true [.v .bool,.v (.int .i64),.v .str]],ntmps:=46 } (fun x=>Z7m k x.1 x.2)
theorem Z7m.ok (k:Nat):Zf Yc 287 (Z7m.con k):=fA (cX (cC (Z8k.ok k) (cC (Zdc.ok k) (cC (Zwh.ok k) (cC (Z0l.ok k) cN))))) Tryz.func287
def Zkk (k:Nat) (a1:G28) (a2:G46):Option (List Zlc):=Ya (Zrj a2) fun v3=>bif a2.1==2 then Ya (Zhf k a1 a2) fun v4=>some v4 else bif a2.1==3 then Ya (Z0e k a1 (4,(2,v3.2.2))) fun v5=>some v5 else bif a2.1==4 then bif a2.2.1==0 then Ya (Zsj a2) fun v6=>Ya (Z0e k a1 v6) fun v7=>some v7 else Ya (Z0e k a1 (v3.1,((Yb .i64 (a2.2.1-1)),v3.2.2))) fun v8=>some v8 else bif a2.1==5 then Ya (Ztb k a1.2 2) fun v9=>Ya (Z7m k v9 a2.2.2.2.2.1) fun v10=>bif (v10.1||(decide (40≤a2.2.2.2.2.1)))||(decide (((a1.2.1.length):Int)≤v10.2.1)) then some ([]) else Ya (Z0e k a1 (v3.1,(v3.2.1,(v3.2.2.1,(v3.2.2.2.1,((Yb .i64 (a2.2.2.2.2.1+1)),v3.2.2.2.2.2)))))) fun v11=>Ya (Zs 32 ([v10,(true,(0,[]))]) v11) fun v12=>some v12 else some ([])
def Zkk.con (k:Nat):Con:=Sig.con { ps:=[.val true T28 (ros T28),.val true T46 (ros T46)],rs:=[.val false [.own 151 Z6b]],ntmps:=76 } (fun x=>Zkk k x.1 x.2)
theorem Zkk.ok (k:Nat):Zf Yc 239 (Zkk.con k):=fA (cXr true false (cC (Ztb.ok k) (cC (Zrj.ok k) (cC (Z0e.ok k) (cC (Zsj.ok k) (cC (Zhf.ok k) (cC (Z7m.ok k) cN))))))) Tryz.func239
def Zhh (k:Nat) (a1:G28) (a2:G46) (a3:G54):Option (List Zlc×Str×List Int×Int):=Ya (Zrj a2) fun v4=>bif a3.1==1 then Ya (Zze k a1 a2 a3) fun v5=>some (v5.1,v5.2.1,v5.2.2.1,v5.2.2.2) else bif a3.1==2 then Ya (Zzq k a1 a2 a3) fun v6=>some (v6.1,v6.2.1,v6.2.2.1,v6.2.2.2) else bif a3.1==3 then Ya (Zxq k a1 a2) fun v7=>some (v7.1,v7.2.1,v7.2.2.1,v7.2.2.2) else bif a3.1==4 then bif (a2.1==1)||(a2.1==5) then Ya (Zlg 10) fun v8=>some (v8.1,v8.2.1,v8.2.2.1,v8.2.2.2) else Ya (Zsj a2) fun v9=>Ya (Z0e k a1 v9) fun v10=>some (v10,[],[],0) else bif a3.1==5 then bif a2.1 != 4 then Ya (Zlg 10) fun v11=>some (v11.1,v11.2.1,v11.2.2.1,v11.2.2.2) else Ya (Z0e k a1 (5,(0,v4.2.2))) fun v12=>Ya (Zs 32 ([(false,(2,[])),(true,(0,[]))]) v12) fun v13=>some (v13,[],[],0) else bif a3.1==6 then Ya (Zfg k a1 a2) fun v14=>some (v14.1,v14.2.1,v14.2.2.1,v14.2.2.2) else bif a3.1==7 then bif decide (a1.1≤a3.2.1) then Ya (Zlg 8) fun v15=>some (v15.1,v15.2.1,v15.2.2.1,v15.2.2.2) else Ya (Z1e k a1 a2) fun v16=>let e17:=at? v16 a3.2.1;Ya (e17) fun v18=>Ya (e17) fun v19=>some ([],v19,[],0) else bif a3.1==8 then Ya (Z6g k a1 a2) fun v20=>some (v20.1,v20.2.1,v20.2.2.1,v20.2.2.2) else bif a3.1==9 then Ya (Z4c k a2.2.2.2.2.2.2.1 a2.2.2.2.2.2.2.2 a3.2.1) fun v21=>bif v21.2 != 0 then Ya (Zlg v21.2) fun v22=>some (v22.1,v22.2.1,v22.2.2.1,v22.2.2.2) else Ya (Zud k a2.2.2.2.2.2.2.1) fun v23=>Ya (Zud k v21.1) fun v24=>Ya (Zfd k (Yb .i64 (v23+v24))) fun v25=>Ya (Z0e k a1 (v4.1,(v4.2.1,(v4.2.2.1,(v4.2.2.2.1,(v4.2.2.2.2.1,(v4.2.2.2.2.2.1,(v25,v4.2.2.2.2.2.2.2)))))))) fun v26=>some (v26,[],[],0) else bif a3.1==10 then Ya (Z0e k a1 (v4.1,(v4.2.1,(v4.2.2.1,(v4.2.2.2.1,(v4.2.2.2.2.1,(v4.2.2.2.2.2.1,([],v4.2.2.2.2.2.2.2)))))))) fun v27=>some (v27,[],[],0) else Ya (Zkk k a1 a2) fun v28=>some (v28,[],[],0)
def Zhh.con (k:Nat):Con:=Sig.con { ps:=[.val true T28 (ros T28),.val true T46 (ros T46),.val true T54 (ros T54)],rs:=[.val true [.own 151 Z6b,.v .str,.own 2 (.int .i64),.v (.int .i64)]],ntmps:=127 } (fun x=>Zhh k x.1 x.2.1 x.2.2)
theorem Zhh.ok (k:Nat):Zf Yc 153 (Zhh.con k):=fA (cXr true false (cC (Zud.ok k) (cC (Zlg.ok k) (cC (Zrj.ok k) (cC (Zze.ok k) (cC (Zzq.ok k) (cC (Zxq.ok k) (cC (Z0e.ok k) (cC (Zsj.ok k) (cC (Zfg.ok k) (cC (Z1e.ok k) (cC (Z6g.ok k) (cC (Z4c.ok k) (cC (Zfd.ok k) (cC (Zkk.ok k) cN))))))))))))))) Tryz.func153
def Z6m (k:Nat) (a1:G28) (a2:G54):Option (List Zlc×Str×List Int×Int):=Ya (Zqi k a1 a2) fun v3=>bif v3 != 0 then Ya (Zlg v3) fun v4=>some (v4.1,v4.2.1,v4.2.2.1,v4.2.2.2) else Ya (Z0i k a1) fun v5=>Ya (Zhh k a1 (v5.1,(v5.2.1,(v5.2.2.1,(v5.2.2.2.1,(v5.2.2.2.2.1,(v5.2.2.2.2.2.1,(v5.2.2.2.2.2.2.1,v5.2.2.2.2.2.2.2.1))))))) a2) fun v6=>some (v6.1,v6.2.1,v6.2.2.1,v6.2.2.2)
def Z6m.con (k:Nat):Con:=Sig.con { ps:=[.val true T28 (ros T28),.val true T54 (ros T54)],rs:=[.val true [.own 151 Z6b,.v .str,.own 2 (.int .i64),.v (.int .i64)]],ntmps:=24 } (fun x=>Z6m k x.1 x.2)
theorem Z6m.ok (k:Nat):Zf Yc 70 (Z6m.con k):=fA (cXr true false (cC (Zqi.ok k) (cC (Zlg.ok k) (cC (Z0i.ok k) (cC (Zhh.ok k) cN))))) Tryz.func70
def Zyq (a1:List Zlc) (a2:Int):Option (List Zlc):=bif decide (a2<((a1.length):Int)) then Ya (Zob a1 0 a2) fun v3=>some v3 else some a1
def Zyq.con (k:Nat):Con:=Sig.con { ps:=[.val false (.sl Z6b) (Zzg (.sl Z6b)),.val false (.int .i64) (ros (.int .i64))],rs:=[.val false [.v (.sl Z6b)]],ntmps:=13 } (fun x=>Zyq x.1 x.2)
theorem Zyq.ok (k:Nat):Zf Yc 77 (Zyq.con k):=fA (cX cN) Tryz.func77
def Zrq (a1:Str) (a2:Str) (a3:Int):Option (Str):=let e4:=(decide (8000<((a1.length):Int)))||(decide (8000<((a2.length):Int)));bif e4||(decide (a3<1)) then bif e4 then some ([]) else some a1 else bif a3==1 then some a2 else let e5:=Yb .i64 (a3-2);bif decide (((a2.length):Int)<e5) then Ya (Zob a2 0 ((a2.length):Int)) fun v6=>some v6 else Ya (Zob a2 0 e5) fun v7=>some v7
def Zrq.con (k:Nat):Con:=Sig.con { ps:=[.val false .str (ros .str),.val false .str (ros .str),.val false (.int .i64) (ros (.int .i64))],rs:=[.val false [.v .str]],ntmps:=44 } (fun x=>Zrq x.1 x.2.1 x.2.2)
theorem Zrq.ok (k:Nat):Zf Yc 162 (Zrq.con k):=fA (cX cN) Tryz.func162
def Zsc.j0 (a1:List Int) (a2:Int) (a3:Int):Option (Int):=bif decide (a2<((a1.length):Int)) then Ya (at? a1 a2) fun v4=>some v4 else some a3
def Zsc.l1:Nat→List Int→List Str→List Zq→Int→List Str→List Zq→Option ((List Str×List Zq))
 | 0,_,_,_,_,_,_=>none
 | j+1,a1,a2,a3,a4,a5,a6=>bif decide (a4<((a3.length):Int)) then Ya (Zsc.j0 a1 a4 0) fun y7=>Ya (at? a3 a4) fun v8=>Ya (at? a3 a4) fun v9=>Ya (at? a2 v9.1) fun v10=>Ya (at? a3 a4) fun v11=>Ya (Zrq v10 v11.2 y7) fun v12=>let e13:=at? a5 v8.1;Ya (e13) fun v14=>Ya (e13) fun v15=>Zsc.l1 j a1 a2 a3 (Yb .i64 (a4+1)) (Yp a5 (Yl v8.1) v12) a6 else some (a5,a6)
def Zsc (k:Nat) (a1:G26) (a2:List Int):Option (List Str×List Zq):=bif decide (400<((a2.length):Int)) then some ([],[]) else Ya (Z1 k a1) fun v3=>bif !v3 then Ya (Z9k a1) fun v4=>some (v4.1,v4.2) else Ya (Zs 16 [] a1.1) fun v5=>Ya (Zsc.l1 k a2 a1.1 a1.2 0 v5 []) fun y6=>some (y6.1,y6.2)
def Zsc.con (k:Nat):Con:=Sig.con { ps:=[.val true T26 (ros T26),.val false (.sl (.int .i64)) (ros (.sl (.int .i64)))],rs:=[.val true [.own 9 .str,.own 195 Zp]],ntmps:=65 } (fun x=>Zsc k x.1 x.2)
def Zsc.cok (k:Nat):=cXr true false (cC (Z9k.ok k) (cC (Z1.ok k) (cC (Zrq.ok k) cN)))
def Zsc.j0.s (k:Nat):Summ:=lq 65 { tmps:=[(1,.one (.bor (.int .i64))),(6,.one (.v (.int .i64))),(7,.one (.v (.int .i64)))],slots:=[],nb:=6 } [(.nrm,{ tmps:=[(7,.one (.v (.int .i64)))],slots:=[],nb:=6 })] (fun x=>Zsc.j0 x.1 x.2.1 x.2.2)
def Zsc.j0.ok (k:Nat):=(jA (Zsc.cok k):Zj Yc _ (cL (cR (cO (cL (cR (cO (cO (cR (cL (cR (cR (cR (cR (cB Tryz.f78)))))))))))))) (Zsc.j0.s k))
def Zsc.l1.s (k:Nat):Summ:=lp 65 { tmps:=[(1,.one (.bor (.int .i64))),(2,.eptr [.bor .str,.bor Zp]),(5,.one (.ptr 3 0)),(6,.one (.v (.int .i64)))],slots:=[(3,.box 26 [.own 4,.own 5]),(4,.arr false 9 .str),(5,.arr false 195 Zp)],nb:=6 } [(.exit 0,{ tmps:=[],slots:=[(3,.box 26 [.own 6,.own 7]),(6,.arr false 9 .str),(7,.arr false 195 Zp)],nb:=8 })] (fun j x=>Zsc.l1 j x.1 x.2.1 x.2.2.1 x.2.2.2.1 x.2.2.2.2.1 x.2.2.2.2.2) k
def Zsc.l1.ok (k:Nat):=(lP (.two .auto (.two (.one (.two .auto (.two (.sum (Zsc.j0.s k)) .auto))) .auto)) (Zsc.cok k) (sC (Zsc.j0.ok k) sN):Zj Yc _ (.loop (cO (cO (cR (cL (cR (cR (cR (cR (cB Tryz.f78)))))))))) (Zsc.l1.s k))
theorem Zsc.ok (k:Nat):Zf Yc 78 (Zsc.con k):=fP (.two .auto (.two .auto (.two .auto (.two .auto (.two (.two .auto (.one (.sum (Zsc.l1.s k)))) .auto))))) (Zsc.cok k) Tryz.func78 (sC (Zsc.l1.ok k) sN)
def Z3k (k:Nat) (a1:G28) (a2:G54) (a3:Int) (a4:List Int):Option (Int×List Str×List Zq×Int):=bif decide (400<((a4.length):Int)) then some (0,[],[],2) else Ya (Z6m k a1 a2) fun v5=>bif decide (a3<0) then some (0,[],[],1) else Ya (Zqi k a1 a2) fun v6=>bif v6==1 then some (0,[],[],1) else Ya (Zyq v5.1 a3) fun v7=>Ya (Zff k a1.2 v7) fun v8=>Ya (Zsc k (v8.1,v8.2.1) a4) fun v9=>some (a1.1,v9.1,v9.2,0)
def Z3k.con (k:Nat):Con:=Sig.con { ps:=[.val true T28 (ros T28),.val true T54 (ros T54),.val false (.int .i64) (ros (.int .i64)),.val false (.sl (.int .i64)) (ros (.sl (.int .i64)))],rs:=[.val true [.v (.int .i64),.own 9 .str,.own 195 Zp,.v (.int .i64)]],ntmps:=42 } (fun x=>Z3k k x.1 x.2.1 x.2.2.1 x.2.2.2)
theorem Z3k.ok (k:Nat):Zf Yc 30 (Z3k.con k):=fA (cXr true false (cC (Zff.ok k) (cC (Zqi.ok k) (cC (Z6m.ok k) (cC (Zyq.ok k) (cC (Zsc.ok k) cN)))))) Tryz.func30
def Zyd.l0:Nat→List Int→Int→List Int→Option ((List Int))
 | 0,_,_,_=>none
 | j+1,a1,a2,a3=>bif decide (a2<((a1.length):Int)) then Ya (at? a1 a2) fun v4=>Ya (at? a3 a2) fun v5=>Ya (at? a3 a2) fun v6=>Zyd.l0 j a1 (Yb .i64 (a2+1)) (Yp a3 (Yl a2) v4) else some a3
def Zyd (k:Nat) (a1:List Int):Option (List Int):=Ya (Ztg 8 ((a1.length):Int) ((a1.length):Int) 0) fun v2=>Ya (Zyd.l0 k a1 0 v2) fun y3=>some y3
def Zyd.con (k:Nat):Con:=Sig.con { ps:=[.val false (.sl (.int .i64)) (ros (.sl (.int .i64)))],rs:=[.val false [.own 2 (.int .i64)]],ntmps:=22 } (fun x=>Zyd k x)
def Zyd.cok (k:Nat):=cX cN
def Zyd.l0.s (k:Nat):Summ:=lp 22 { tmps:=[(0,.one (.bor (.int .i64))),(3,.one (.own 1)),(4,.one (.v (.int .i64)))],slots:=[(1,.arr false 2 (.int .i64))],nb:=2 } [(.exit 0,{ tmps:=[(3,.one (.own 2))],slots:=[(2,.arr false 2 (.int .i64))],nb:=3 })] (fun j x=>Zyd.l0 j x.1 x.2.1 x.2.2) k
def Zyd.l0.ok (k:Nat):=(lA (Zyd.cok k):Zj Yc _ (.loop (cO (cO (cR (cL (cR (cR (cB Tryz.f31)))))))) (Zyd.l0.s k))
theorem Zyd.ok (k:Nat):Zf Yc 31 (Zyd.con k):=fP (.two .auto (.two .auto (.two (.two .auto (.one (.sum (Zyd.l0.s k)))) .auto))) (Zyd.cok k) Tryz.func31 (sC (Zyd.l0.ok k) sN)
def Zwm (k:Nat) (a1:G38) (a2:G38):Option (Bool):=Ya (Zxk k a1.1 a2.1) fun v3=>bif !v3 then some false else bif a1.2 != a2.2 then some false else some true
def Zwm.con (k:Nat):Con:=Sig.con { ps:=[.val true T38 (ros T38),.val true T38 (ros T38)],rs:=[.val false [.v .bool]],ntmps:=16 } (fun x=>Zwm k x.1 x.2)
theorem Zwm.ok (k:Nat):Zf Yc 32 (Zwm.con k):=fA (cXr true false (cC (Zxk.ok k) cN)) Tryz.func32
def Ztf.l0:Nat→List Int→List Int→Int→Option (Unit ⊕ Bool)
 | 0,_,_,_=>none
 | j+1,a1,a2,a3=>bif decide (a3<((a1.length):Int)) then Ya (at? a1 a3) fun v4=>Ya (at? a2 a3) fun v5=>bif v4 != v5 then some (.inr false) else Ztf.l0 j a1 a2 (Yb .i64 (a3+1)) else some (.inl ())
def Ztf (k:Nat) (a1:List Int) (a2:List Int):Option (Bool):=bif ((a1.length):Int) != ((a2.length):Int) then some false else Ya (Ztf.l0 k a1 a2 0) fun
  | .inl y3=>some true
  | .inr y4=>some y4
def Ztf.con (k:Nat):Con:=Sig.con { ps:=[.val false (.sl (.int .i64)) (ros (.sl (.int .i64))),.val false (.sl (.int .i64)) (ros (.sl (.int .i64)))],rs:=[.val false [.v .bool]],ntmps:=26 } (fun x=>Ztf k x.1 x.2)
def Ztf.cok (k:Nat):=cX cN
def Ztf.l0.s (k:Nat):Summ:=lp 26 { tmps:=[(0,.one (.bor (.int .i64))),(1,.one (.bor (.int .i64))),(5,.one (.v (.int .i64)))],slots:=[],nb:=0 } [(.exit 0,{ tmps:=[],slots:=[],nb:=0 }),(.ret,{ tmps:=[(4,.one (.v .bool))],slots:=[],nb:=0 })] (fun j x=>Ztf.l0 j x.1 x.2.1 x.2.2) k
def Ztf.l0.ok (k:Nat):=(lA (Ztf.cok k):Zj Yc _ (.loop (cO (cO (cR (cL (cR (cR (cB Tryz.f33)))))))) (Ztf.l0.s k))
theorem Ztf.ok (k:Nat):Zf Yc 33 (Ztf.con k):=fP (.two .auto (.two .auto (.two (.two .auto (.one (.sum (Ztf.l0.s k)))) .auto))) (Ztf.cok k) Tryz.func33 (sC (Ztf.l0.ok k) sN)
def Zje.l0:Nat→Int→Int→List Int→Option ((Int×List Int))
 | 0,_,_,_=>none
 | j+1,a1,a2,a3=>bif decide (a2<((a3.length):Int)) then Ya (at? a3 a2) fun v4=>Ya (at? a3 a2) fun v5=>Zje.l0 j (Yb .i64 (a1+1)) (Yb .i64 (a2+1)) (Yp a3 (Yl a2) a1) else some (a1,a3)
def Zje (k:Nat) (a1:List Int) (a2:Int):Option (Int×List Int):=Ya (Zje.l0 k a2 0 a1) fun y3=>some (y3.1,y3.2)
def Zje.con (k:Nat):Con:=Sig.con { ps:=[.val false (.sl (.int .i64)) [.own 2],.val false (.int .i64) (ros (.int .i64))],rs:=[.val false [.v (.int .i64)]],ntmps:=19 } (fun x=>Zje k x.1 x.2)
def Zje.cok (k:Nat):=cX cN
def Zje.l0.s (k:Nat):Summ:=lp 19 { tmps:=[(0,.one (.pin 0)),(1,.one (.v (.int .i64))),(5,.one (.v (.int .i64)))],slots:=[(0,.pin 2 (.int .i64))],nb:=1 } [(.exit 0,{ tmps:=[(1,.one (.v (.int .i64)))],slots:=[(0,.pin 2 (.int .i64))],nb:=1 })] (fun j x=>Zje.l0 j x.1 x.2.1 x.2.2) k
def Zje.l0.ok (k:Nat):=(lA (Zje.cok k):Zj Yc _ (.loop (cO (cO (cR (cL (cR (cB Tryz.f34))))))) (Zje.l0.s k))
theorem Zje.ok (k:Nat):Zf Yc 34 (Zje.con k):=fP (.two .auto (.two (.two .auto (.one (.sum (Zje.l0.s k)))) .auto)) (Zje.cok k) Tryz.func34 (sC (Zje.l0.ok k) sN)
def Zxp (k:Nat) (a1:G38) (a2:Int):Option (Int×List Str×List Zq):=Ya (Zxm k a1.1 a2) fun v3=>some (v3.1,v3.2.1,v3.2.2)
def Zxp.con (k:Nat):Con:=Sig.con { ps:=[.val true T38 [.v,.own 9,.own 195,.v],.val false (.int .i64) (ros (.int .i64))],rs:=[.val false [.v (.int .i64)]],ntmps:=10 } (fun x=>Zxp k x.1 x.2)
theorem Zxp.ok (k:Nat):Zf Yc 35 (Zxp.con k):=fA (cX (cC (Zxm.ok k) cN)) Tryz.func35
def Zwf.l0 (k:Nat):Nat→List Str→Int→Int→Option (Int ⊕ Int)
 | 0,_,_,_=>none
 | j+1,a1,a2,a3=>bif decide (a3<((a1.length):Int)) then Ya (at? a1 a3) fun v4=>Ya (Z2c k a2) fun v5=>bif !(v4==v5) then some (.inr (-1)) else Zwf.l0 k j a1 (Yb .i64 (a2+1)) (Yb .i64 (a3+1)) else some (.inl a2)
def Zwf (k:Nat) (a1:List Str) (a2:Int):Option (Int):=Ya (Zwf.l0 k k a1 a2 0) fun
  | .inl y3=>some y3
  | .inr y4=>some y4
def Zwf.con (k:Nat):Con:=Sig.con { ps:=[.val false (.sl .str) (ros (.sl .str)),.val false (.int .i64) (ros (.int .i64))],rs:=[.val false [.v (.int .i64)]],ntmps:=22 } (fun x=>Zwf k x.1 x.2)
def Zwf.cok (k:Nat):=cX (cC (Z2c.ok k) cN)
def Zwf.l0.s (k:Nat):Summ:=lp 22 { tmps:=[(0,.one (.bor .str)),(1,.one (.v (.int .i64))),(5,.one (.v (.int .i64)))],slots:=[],nb:=0 } [(.exit 0,{ tmps:=[(1,.one (.v (.int .i64)))],slots:=[],nb:=0 }),(.ret,{ tmps:=[(4,.one (.v (.int .i64)))],slots:=[],nb:=0 })] (fun j x=>Zwf.l0 k j x.1 x.2.1 x.2.2) k
def Zwf.l0.ok (k:Nat):=(lA (Zwf.cok k):Zj Yc _ (.loop (cO (cO (cR (cL (cR (cB Tryz.f243))))))) (Zwf.l0.s k))
theorem Zwf.ok (k:Nat):Zf Yc 243 (Zwf.con k):=fP (.two .auto (.two (.two .auto (.one (.sum (Zwf.l0.s k)))) .auto)) (Zwf.cok k) Tryz.func243 (sC (Zwf.l0.ok k) sN)
def Zvf.l0 (k:Nat):Nat→List Zq→Int→Int→Option (Int ⊕ Int)
 | 0,_,_,_=>none
 | j+1,a1,a2,a3=>bif decide (a3<((a1.length):Int)) then Ya (at? a1 a3) fun v4=>bif v4.1 != a2 then some (.inr (-1)) else Ya (at? a1 a3) fun v5=>let e6:=Yb .i64 (a2+1);Ya (Z2c k e6) fun v7=>bif !(v5.2==v7) then some (.inr (-1)) else Zvf.l0 k j a1 (Yb .i64 (e6+1)) (Yb .i64 (a3+1)) else some (.inl a2)
def Zvf (k:Nat) (a1:List Zq) (a2:Int):Option (Int):=Ya (Zvf.l0 k k a1 a2 0) fun
  | .inl y3=>some y3
  | .inr y4=>some y4
def Zvf.con (k:Nat):Con:=Sig.con { ps:=[.val false (.sl Zp) (ros (.sl Zp)),.val false (.int .i64) (ros (.int .i64))],rs:=[.val false [.v (.int .i64)]],ntmps:=32 } (fun x=>Zvf k x.1 x.2)
def Zvf.cok (k:Nat):=cX (cC (Z2c.ok k) cN)
def Zvf.l0.s (k:Nat):Summ:=lp 32 { tmps:=[(0,.one (.bor Zp)),(1,.one (.v (.int .i64))),(5,.one (.v (.int .i64)))],slots:=[],nb:=0 } [(.exit 0,{ tmps:=[(1,.one (.v (.int .i64)))],slots:=[],nb:=0 }),(.ret,{ tmps:=[(4,.one (.v (.int .i64)))],slots:=[],nb:=0 })] (fun j x=>Zvf.l0 k j x.1 x.2.1 x.2.2) k
def Zvf.l0.ok (k:Nat):=(lA (Zvf.cok k):Zj Yc _ (.loop (cO (cO (cR (cL (cR (cB Tryz.f244))))))) (Zvf.l0.s k))
theorem Zvf.ok (k:Nat):Zf Yc 244 (Zvf.con k):=fP (.two .auto (.two (.two .auto (.one (.sum (Zvf.l0.s k)))) .auto)) (Zvf.cok k) Tryz.func244 (sC (Zvf.l0.ok k) sN)
def Z4r (k:Nat) (a1:G26) (a2:Int):Option (Int):=Ya (Zwf k a1.1 a2) fun v3=>bif decide (v3<0) then some (-1) else Ya (Zvf k a1.2 v3) fun v4=>bif decide (v4<0) then some (-1) else some v4
def Z4r.con (k:Nat):Con:=Sig.con { ps:=[.val true T26 (ros T26),.val false (.int .i64) (ros (.int .i64))],rs:=[.val false [.v (.int .i64)]],ntmps:=18 } (fun x=>Z4r k x.1 x.2)
theorem Z4r.ok (k:Nat):Zf Yc 160 (Z4r.con k):=fA (cXr true false (cC (Zwf.ok k) (cC (Zvf.ok k) cN))) Tryz.func160
def Zwp (k:Nat) (a1:G28) (a2:Int):Option (Int):=Ya (Z4r k a1.2 a2) fun v3=>bif decide (v3<0) then some (-1) else some v3
def Zwp.con (k:Nat):Con:=Sig.con { ps:=[.val true T28 (ros T28),.val false (.int .i64) (ros (.int .i64))],rs:=[.val false [.v (.int .i64)]],ntmps:=12 } (fun x=>Zwp k x.1 x.2)
theorem Zwp.ok (k:Nat):Zf Yc 75 (Zwp.con k):=fA (cXr true false (cC (Z4r.ok k) cN)) Tryz.func75
def Zzn (k:Nat) (a1:G38) (a2:Int):Option (Int):=Ya (Zwp k a1.1 a2) fun v3=>bif decide (v3<0) then some (-1) else some v3
def Zzn.con (k:Nat):Con:=Sig.con { ps:=[.val true T38 (ros T38),.val false (.int .i64) (ros (.int .i64))],rs:=[.val false [.v (.int .i64)]],ntmps:=12 } (fun x=>Zzn k x.1 x.2)
theorem Zzn.ok (k:Nat):Zf Yc 36 (Zzn.con k):=fA (cXr true false (cC (Zwp.ok k) cN)) Tryz.func36
def Z1g (k:Nat) (a1:G28) (a2:G54) (a3:Int) (a4:List Int):Option (Bool):=bif decide (1048576<((a4.length):Int)) then some true else Ya (Z1p k a1 1048576) fun v5=>bif decide (v5<0) then some true else Ya (Zyp a2 v5) fun v6=>bif decide (v6<0) then some true else Ya (Zrl k a1) fun v7=>Ya (Z0n a2) fun v8=>Ya (Zyd k a4) fun v9=>Ya (Z3k k v7 v8 a3 v9) fun v10=>Ya (Zrl k a1) fun v11=>Ya (Zyd k a4) fun v12=>Ya (Z0n a2) fun v13=>Ya (Z6j k v11 v13 a3 v12) fun v14=>let e15:=((v14.1,(v14.2.1,v14.2.2.1)),v14.2.2.2);let e16:=((v10.1,(v10.2.1,v10.2.2.1)),v10.2.2.2);Ya (Zwm k e15 e16) fun v17=>bif !v17 then some false else Ya (Zrl k a1) fun v18=>Ya (Zxk k v11 v18) fun v19=>bif !v19 then some false else Ya (Zyd k a4) fun v20=>Ya (Ztf k v12 v20) fun v21=>bif !v21 then some false else Ya (Zxm k v11 1) fun v22=>Ya (Zje k v12 v22.1) fun v23=>bif decide (v23.1<0) then some false else Ya (Zwm k e15 e16) fun v24=>bif !v24 then some false else Ya (Zxp k e15 1) fun v25=>Ya (Zzn k ((v14.1,v25.2),v14.2.2.2) 1) fun v26=>bif decide (v26<0) then some false else bif v26 != v25.1 then some false else Ya (Zrl k a1) fun v27=>Ya (Z0n a2) fun v28=>Ya (Zyd k a4) fun v29=>Ya (Z6j k v27 v28 a3 v29) fun v30=>Ya (Zwm k ((v30.1,(v30.2.1,v30.2.2.1)),v30.2.2.2) e16) fun v31=>bif !v31 then some false else Ya (Zzn k ((v14.1,v25.2),v14.2.2.2) 1) fun v32=>bif decide (v32<0) then some false else bif v32 != v25.1 then some false else some true
def Z1g.sig:Sig:={ ps:=[.val true T28 (ros T28),.val true T54 (ros T54),.val false (.int .i64) (ros (.int .i64)),.val false (.sl (.int .i64)) (ros (.sl (.int .i64)))],rs:=[.val false [.v .bool]],ntmps:=108 }
def Z1g.con (k:Nat):Con:=Z1g.sig.con (fun x=>Z1g k x.1 x.2.1 x.2.2.1 x.2.2.2)
theorem Z1g.ok (k:Nat):Zf Yc 5 (Z1g.con k):=fA (cXr true false (cC (Z6j.ok k) (cC (Z1p.ok k) (cC (Zyp.ok k) (cC (Zrl.ok k) (cC (Z0n.ok k) (cC (Zxk.ok k) (cC (Zxm.ok k) (cC (Z3k.ok k) (cC (Zyd.ok k) (cC (Zwm.ok k) (cC (Ztf.ok k) (cC (Zje.ok k) (cC (Zxp.ok k) (cC (Zzn.ok k) cN))))))))))))))) Tryz.func5
end Go.Proofs.Qz
namespace Go.Proofs.Qz
open Go
set_option linter.unusedVariables false
def Ze (p:Nat→Prop):Prop:=∃K,∀k,K≤k→p k
theorem Ze.of {p:Nat→Prop} (h:∀k,p k):Ze p:=⟨0,fun k _=>h k⟩
theorem Ze.ge {p:Nat→Prop} (K:Nat) (h:∀k,K≤k→p k):Ze p:=⟨K,h⟩
theorem Ze.mono {p q:Nat→Prop} (h:Ze p) (f:∀k,p k→q k):Ze q:=by
 obtain ⟨K,h⟩:=h
 exact ⟨K,fun k hk=>f k (h k hk)⟩
theorem Ze.and {p q:Nat→Prop} (h:Ze p) (g:Ze q):Ze fun k=>p k∧q k:=by
 obtain ⟨K,h⟩:=h
 obtain ⟨J,g⟩:=g
 exact ⟨K+J,fun k hk=>⟨h k (by omega),g k (by omega)⟩⟩
theorem Ze.ex {p:Nat→Prop} (h:Ze p):∃k,p k:=by
 obtain ⟨K,h⟩:=h
 exact ⟨K,h K (Yv K)⟩
theorem Ze.all {n:Nat} {p:Nat→Nat→Prop}:(∀i,i<n→Ze (p i))→Ze fun k=>∀i,i<n→p i k:=by
 induction n with
 | zero=>exact fun _=>⟨0,fun k _ i hi=>absurd hi (Yk i)⟩
 | succ n ih=>
  intro h;refine ((ih fun i hi=>h i (Nat.lt_succ_of_lt hi)).and (h n (Nat.lt_succ_self n))).mono fun k hk i hi=>?_
  rcases Nat.eq_or_lt_of_le (Nat.le_of_lt_succ hi) with rfl | hi
  ·exact hk.2
  ·exact hk.1 i hi
theorem Ze.two {p q r:Nat→Prop} (h:Ze p) (g:Ze q) (f:∀k,p k→q k→r k):Ze r:=(h.and g).mono fun k hk=>f k hk.1 hk.2
theorem Zov {R:Type} (L:Nat→Nat→Nat→Option R) (n:Nat) (r:R) (hs:Ze fun k=>∀i,i<n→∀j,L k (j+1) i=L k j (i+1)) (hl:Ze fun k=>∀j,L k (j+1) n=some r):Ze fun k=>L k k 0=some r:=by
 obtain ⟨K,hs⟩:=hs
 obtain ⟨J,hl⟩:=hl
 refine ⟨K+J+n+1,fun k hk=>?_⟩
 have hs:=hs k (by omega)
 have hl:=hl k (by omega)
 have key:∀d i j,i+d=n→d<j→L k j i=some r:=by
  intro d
  induction d with
  | zero=>
   intro i j hi hj;obtain ⟨m,rfl⟩:∃m,j=m+1:=⟨j-1,by omega⟩;obtain rfl:i=n:=by omega
   exact hl m
  | succ d ih=>
   intro i j hi hj;obtain ⟨m,rfl⟩:∃m,j=m+1:=⟨j-1,by omega⟩;rw [hs i (by omega) m];exact ih (i+1) m (by omega) (by omega)
 exact key n 0 k (by omega) (by omega)
theorem Zv4 {R:Type} (L:Nat→Nat→Option R) (n:Nat) (r:R) (hs:∀i,i<n→∀j,L (j+1) i=L j (i+1)) (hl:∀j,L (j+1) n=some r):Ze fun k=>L k 0=some r:=Zov (fun _ j i=>L j i) n r (Ze.of fun _=>hs) (Ze.of fun _=>hl)
theorem Zrb {R:Type} (L:Nat→Nat→Option R) (n:Nat) (r:R) (hs:∀i,i<n→∀j,L (j+1) i=L j (i+1)) (hl:∀j,L (j+1) n=some r):∀k,n<k→L k 0=some r:=by
 have key:∀d i j,i+d=n→d<j→L j i=some r:=by
  intro d
  induction d with
  | zero=>
   intro i j hi hj;obtain ⟨m,rfl⟩:∃m,j=m+1:=⟨j-1,by omega⟩;obtain rfl:i=n:=by omega
   exact hl m
  | succ d ih=>
   intro i j hi hj;obtain ⟨m,rfl⟩:∃m,j=m+1:=⟨j-1,by omega⟩;rw [hs i (by omega) m];exact ih (i+1) m (by omega) (by omega)
 exact fun k hk=>key n 0 k (by omega) hk
theorem w64 {n:Int} (h0:-9223372036854775808≤n) (h1:n<9223372036854775808):Yb .i64 n=n:=by
 simp [Yb,Ym,Yt]
 omega
theorem wf64 {n:Int} (h:Bnd (.int .i64) n):-9223372036854775808≤n∧n<9223372036854775808:=by
 have h:(Lit.int .i64 n).wf=true:=h
 simp [Lit.wf,IntKind.min,Yda,Yt,Ym] at h
 omega
theorem wn {n:Nat} (h:n<9223372036854775808):Yb .i64 (n:Int)=n:=w64 (by omega) (by omega)
theorem Zn {n:Nat} (h:n<9223372036854775807):Yb .i64 ((n:Int)+1)=((n+1:Nat):Int):=by rw [w64] <;> omega
theorem Zi {α:Type} {l:List α} {i:Nat} (h:i<l.length):at? l (i:Int)=some l[i]:=by
 unfold at?
 rw [Xc (by omega),Ye,Y5 h]
theorem Z4 {α:Type} {n:Nat} {a b:List α} (h:(a.length+b.length)*n≤140737488355328):Zs n a b=some (a++b):=Xc h
theorem Zvc {a b:Str} (h:a.length+b.length≤9223372036854775807):Zqc a b=some (a++b):=Xc h
theorem Zxt {α:Type} {b n:Nat} {x:α} (h:n*b≤140737488355328):Ztg b (n:Int) (n:Int) x=some (Yu n x):=by
 unfold Ztg
 rw [Xc ⟨by omega,Int.le_refl _,by rw [Ye];exact h⟩,Ye]
theorem Znf {α:Type} {l:List α} {i j:Nat} (h:i≤j) (k:j≤l.length):Zob l (i:Int) (j:Int)=some ((l.take j).drop i):=by
 unfold Zob
 rw [Xc ⟨by omega,by omega,by omega⟩,Ye,Ye]
theorem Zkdb {n b:Nat} (h:n*b≤140737488355328):Z0w n b=some ():=Xc h
theorem Z7p {b:Int} (h:b≠0):nz? b=some ():=Xd h
theorem Z3c {b:Int} (h:0≤b):Zwb b=some ():=Xd (by omega)
theorem Zbfb {α β:Type} {l:List α} (f:α→β) {i:Nat} (h:i<l.length):(l.take (i+1)).map f=(l.take i).map f++[f l[i]]:=by
 rw [Yia,Y5 h,List.map_append]
 rfl
theorem Zai {α:Type} {l:List α} {i:Nat} (h:i<l.length):l.take (i+1)=l.take i++[l[i]]:=by
 rw [Yia,Y5 h]
 rfl
def Zxl {α S R:Type} (f:S→α→S ⊕ R) (g:S→R):List α→S→R
 | [],s=>g s
 | x::l,s=>match f s x with
  | .inl s'=>Zxl f g l s'
  | .inr r=>r
theorem Zdnb {α S R:Type} {f:S→α→S ⊕ R} {g:S→R} {x:α} {l:List α} {s s':S} (h:f s x = .inl s'):Zxl f g (x::l) s=Zxl f g l s':=by
 have e:Zxl f g (x::l) s=match f s x with | .inl s'=>Zxl f g l s' | .inr r=>r:=rfl
 rw [e,h]
theorem Zylb {α S R:Type} (L:Nat→S→Int→Option R) (l:List α) (f:S→α→S ⊕ R) (g:S→R) (I:Nat→S→Prop)
  (hs:∀(i:Nat) (h:i<l.length) (s:S),I i s→(∃s',f s l[i] = .inl s'∧I (i+1) s'∧∀j,L (j+1) s (i:Int)=L j s' ((i+1:Nat):Int))∨∃r,f s l[i] = .inr r∧∀j,L (j+1) s (i:Int)=some r)
  (he:∀(s:S),I l.length s→∀j,L (j+1) s (l.length:Int)=some (g s)):∀(d i:Nat) (s:S),i+d=l.length→I i s→∀j,d<j→L j s (i:Int)=some (Zxl f g (l.drop i) s):=by
 intro d
 induction d with
 | zero=>
  intro i s hi hI j hj;obtain ⟨j,rfl⟩:∃q,j=q+1:=⟨j-1,by omega⟩;obtain rfl:i=l.length:=by omega
  rw [Y3,he s hI];rfl
 | succ d ih=>
  intro i s hi hI j hj;obtain ⟨j,rfl⟩:∃q,j=q+1:=⟨j-1,by omega⟩;have hlt:i<l.length:=by omega
  rw [Yo hlt];rcases hs i hlt s hI with ⟨s',h1,h2,h3⟩ | ⟨r,h1,h3⟩
  ·rw [h3 j]
   show _=some (match f s l[i] with | .inl s'=>Zxl f g (l.drop (i+1)) s' | .inr r=>r);rw [h1];exact ih (i+1) s' (by omega) h2 j (by omega)
  ·rw [h3 j]
   show _=some (match f s l[i] with | .inl s'=>Zxl f g (l.drop (i+1)) s' | .inr r=>r);rw [h1]
theorem Zxlb {α S R:Type} (L:Nat→S→Int→Option R) (l:List α) (f:S→α→S ⊕ R) (g:S→R) (I:Nat→S→Prop) (hs:∀(i:Nat) (h:i<l.length) (s:S),I i s→(∃s',f s l[i] = .inl s'∧I (i+1) s'∧∀j,L (j+1) s (i:Int)=L j s' ((i+1:Nat):Int))∨∃r,f s l[i] = .inr r∧∀j,L (j+1) s (i:Int)=some r) (he:∀(s:S),I l.length s→∀j,L (j+1) s (l.length:Int)=some (g s)) {s:S} (hI:I 0 s) {k:Nat} (hk:l.length<k):L k s 0=some (Zxl f g l s):=Zylb L l f g I hs he l.length 0 s (Yr _) hI k hk
def Zsb {α:Type} (p:α→Bool):List α→Nat→Option Nat
 | [],_=>none
 | x::l,i=>if p x then some i else Zsb p l (i+1)
theorem Zrh {α R:Type} (L:Nat→Int→Option R) (l:List α) (p:α→Bool) (a:R) (b:Nat→R)
  (hs:∀(i:Nat) (h:i<l.length),(p l[i]=false→∀j,L (j+1) (i:Int)=L j ((i+1:Nat):Int))∧(p l[i]=true→∀j,L (j+1) (i:Int)=some (b i)))
  (he:∀j,L (j+1) (l.length:Int)=some a) {k:Nat} (hk:l.length<k):L k 0=some (match Zsb p l 0 with | some i=>b i | none=>a):=by
 have key:∀(d i:Nat),i+d=l.length→∀j,d<j→L j (i:Int)=some (match Zsb p (l.drop i) i with | some i=>b i | none=>a):=by
  intro d
  induction d with
  | zero=>
   intro i hi j hj;obtain ⟨j,rfl⟩:∃q,j=q+1:=⟨j-1,by omega⟩;obtain rfl:i=l.length:=by omega
   rw [Y3,he];rfl
  | succ d ih=>
   intro i hi j hj;obtain ⟨j,rfl⟩:∃q,j=q+1:=⟨j-1,by omega⟩;have hlt:i<l.length:=by omega
   rw [Yo hlt];obtain ⟨h1,h2⟩:=hs i hlt;cases hp:p l[i] with
   | true=>rw [h2 hp j];simp [Zsb,hp]
   | false=>
    rw [h1 hp j,ih (i+1) (by omega) j (by omega)];simp [Zsb,hp]
 have:=key l.length 0 (Yr _) k hk
 rwa [Y4] at this
theorem Zml {α:Type} {p:α→Bool}:∀{l:List α} {n i:Nat},Zsb p l n=some i→n≤i∧∃h:i-n<l.length,p (l[i-n])=true∧∀j,(hj:j<i-n)→p (l[j]'(by omega))=false
 | [],_,_,h=>by cases h
 | x::l,n,i,h=>by
  unfold Zsb at h;split at h
  ·rename_i hp
   cases h;refine ⟨Yv _,by simp,?_,fun j hj=>by omega⟩;simpa using hp
  ·rename_i hp
   obtain ⟨h1,h2,h3,h4⟩:=Zml h;refine ⟨by omega,by simp only [Yy];omega,?_,fun j hj=>?_⟩
   ·have e:i-n=(i-(n+1))+1:=by omega
    simpa [e] using h3
   ·cases j with
    | zero=>simpa using hp
    | succ j=>simpa using h4 j (by omega)
theorem Zrr {α:Type} {p:α→Bool}:∀{l:List α} {n:Nat},Zsb p l n=none ↔ ∀x∈l,p x=false
 | [],n=>by simp [Zsb]
 | x::l,n=>by
  unfold Zsb;split
  ·rename_i hp
   simp [hp]
  ·rename_i hp
   rw [Zrr];simp at hp;simp [hp]
theorem Zit {α:Type} {p:α→Bool} {l:List α} {n:Nat}:(Zsb p l n).isSome=l.any p:=by
 cases h:Zsb p l n with
 | none=>
  have:=Zrr.1 h
  symm
  simp only [Option.isSome_none,List.any_eq_false];intro x hx;rw [this x hx];exact nofun
 | some i=>
  obtain ⟨_,h2,h3,_⟩:=Zml h
  symm
  exact List.any_eq_true.2 ⟨_,Yfa h2,h3⟩
theorem Zgv {α:Type} (L:Nat→Int→List α→Option (List α)) (l:List α) (z:α)
  (hs:∀(i:Nat) (h:i<l.length) (c:List α),c.length=l.length→∀j,L (j+1) (i:Int) c=L j ((i+1:Nat):Int) (c.set i l[i]))
  (he:∀(c:List α) j,L (j+1) (l.length:Int) c=some c) {k:Nat} (hk:l.length<k):L k 0 (Yu l.length z)=some l:=by
 have key:∀(d i:Nat),i+d=l.length→∀j,d<j→L j (i:Int) (l.take i++Yu (l.length-i) z)=some l:=by
  intro d
  induction d with
  | zero=>
   intro i hi j hj;obtain ⟨j,rfl⟩:∃q,j=q+1:=⟨j-1,by omega⟩;obtain rfl:i=l.length:=by omega
   rw [he,Ysa,Yka];simp
  | succ d ih=>
   intro i hi j hj;obtain ⟨j,rfl⟩:∃q,j=q+1:=⟨j-1,by omega⟩;have hlt:i<l.length:=by omega
   rw [hs i hlt _ (by simp;omega)]
   have e:(l.take i++Yu (l.length-i) z).set i l[i]=l.take (i+1)++Yu (l.length-(i+1)) z:=by
    have hl:(l.take i).length=i:=by simp;omega
    rw [List.set_append_right _ _ (by omega),hl,Ysa,show l.length-i=(l.length-(i+1))+1 by omega,List.replicate_succ,List.set_cons_zero,Zai hlt,Yn];rfl
   rw [e];exact ih (i+1) (by omega) j (by omega)
 have:=key l.length 0 (Yr _) k hk
 simpa using this
theorem dlt {a b:Nat} (h:a<b):decide ((a:Int)<(b:Int))=true:=Xa (by omega)
theorem Zv {a b:Nat} (h:b≤a):decide ((a:Int)<(b:Int))=false:=Xb (by omega)
theorem Za {α β:Type} {x:Option α} {f:α→Option β} {a:α} {b:Option β} (h:x=some a) (k:f a=b):x.bind f=b:=by rw [h];exact k
theorem Zfhb {α:Type} (L:Nat→Nat→Str→Int→Option Str) (l:List α) (f:α→Str) (B M:Nat) (hB:∀x∈l,(f x).length≤B)
  (hs:∀i,(h:i<l.length)→Ze fun k=>∀acc j,acc.length≤M→L k (j+1) acc (i:Int)=L k j (acc++f l[i]) ((i+1:Nat):Int))
  (he:∀k acc j,L k (j+1) acc (l.length:Int)=some acc) (acc:Str) (ha:acc.length+B*l.length≤M):Ze fun k=>L k k acc 0=some (acc++(l.map f).flatten):=by
 have hall:Ze fun k=>∀i,i<l.length→∀(h:i<l.length) acc j,acc.length≤M→L k (j+1) acc (i:Int)=L k j (acc++f l[i]) ((i+1:Nat):Int):=Ze.all fun i hi=>(hs i hi).mono fun k hk h=>hk
 obtain ⟨K,hK⟩:=hall
 refine Ze.ge (K+l.length+1) fun k hk=>?_
 have hK:=hK k (by omega)
 have key:∀(d i:Nat) (acc:Str),i+d=l.length→acc.length+B*d≤M→∀j,d<j→L k j acc (i:Int)=some (acc++((l.drop i).map f).flatten):=by
  intro d
  induction d with
  | zero=>
   intro i acc hi hacc j hj;obtain ⟨j,rfl⟩:∃q,j=q+1:=⟨j-1,by omega⟩;obtain rfl:i=l.length:=by omega
   rw [he,Y3];simp
  | succ d ih=>
   intro i acc hi hacc j hj;obtain ⟨j,rfl⟩:∃q,j=q+1:=⟨j-1,by omega⟩;have h:i<l.length:=by omega
   have hf:=hB _ (Yfa h);rw [Nat.mul_succ] at hacc;rw [hK i h h acc j (by omega),ih (i+1) _ (by omega) (by rw [Yj];omega) j (by omega),Yo h,List.map_cons,List.flatten_cons,Yn]
 have:=key l.length 0 acc (Yr _) ha k (by omega)
 rwa [Y4] at this
theorem u8w (n:Int):Yb .u8 n=n%256:=by simp [Yb,Ym,Yt]
theorem Zts (n:Int):Yb .u32 n=n%4294967296:=by simp [Yb,Ym,Yt]
theorem Zih (n:Int):Yb .u64 n=n%18446744073709551616:=by simp [Yb,Ym,Yt]
theorem Zpo (a b:Nat) (ha:a<4294967296) (hb:b<4294967296):intBits .xor .u32 (a:Int) (b:Int)=((a ^^^ b:Nat):Int):=by
 have hx:a ^^^ b<2^32:=Yta (by omega) (by omega)
 show Yb .u32 (((Yf 32 (a:Int)) ^^^ (Yf 32 (b:Int))).toNat:Int)=_
 rw [Yh,Yh,BitVec.toNat_xor,Yi,Yi,Zts,Yg (show a<2^32 by omega),Yg (show b<2^32 by omega)]
 omega
theorem Zd8 (a:Nat) (ha:a<4294967296):intBits .and .u32 (a:Int) 1=((a%2:Nat):Int):=by
 have h:a &&& 1=a%2:=Yma a
 show Yb .u32 (((Yf 32 (a:Int)) &&& (Yf 32 ((1:Nat):Int))).toNat:Int)=_
 rw [Yh,Yh,Yaa,Yi,Yi,Zts,Yg (show a<2^32 by omega),Yg (show 1<2^32 by omega),h]
 omega
theorem Zugb (a:Nat) (ha:a<18446744073709551616):intBits .and .u64 (a:Int) 1=((a%2:Nat):Int):=by
 have h:a &&& 1=a%2:=Yma a
 show Yb .u64 (((Yf 64 (a:Int)) &&& (Yf 64 ((1:Nat):Int))).toNat:Int)=_
 rw [Yh,Yh,Yaa,Yi,Yi,Zih,Yg (show a<2^64 by omega),Yg (show 1<2^64 by omega),h]
 omega
theorem Z1gb (a b:Nat) (ha:a<18446744073709551616) (hb:b<18446744073709551616):intBits .or .u64 (a:Int) (b:Int)=((a ||| b:Nat):Int):=by
 show Yb .u64 (((Yf 64 (a:Int)) ||| (Yf 64 (b:Int))).toNat:Int)=_
 have hx:a ||| b<2^64:=Nat.or_lt_two_pow (by omega) (by omega)
 rw [Yh,Yh,BitVec.toNat_or,Yi,Yi,Zih,Yg (show a<2^64 by omega),Yg (show b<2^64 by omega)]
 omega
theorem Zhgb:∀a:Nat,a<256→intBits .and .u8 ((a:Nat):Int) 127=((a%128:Nat):Int):=by decide +kernel
theorem Zimb (a:Nat) (h:a<9223372036854775808):intBits .xor .i64 (-1) (a:Int) = -(a:Int)-1:=by
 show Yb .i64 (((Yf 64 (-1)) ^^^ (Yf 64 (a:Int))).toNat:Int)=_
 have e:(Yf 64 (-1))=BitVec.allOnes 64:=by decide
 rw [Yh,e,BitVec.allOnes_xor,BitVec.toNat_not,Yi,IntKind.wrap_i64,Yg (show a<2^64 by omega)]
 omega
theorem Zpi (k:IntKind) (r m:Nat) (h:m≤k.bits):shr k (r:Int) (m:Int)=((r/2^m:Nat):Int):=by
 unfold shr
 rw [Ye,Yoa h,Int.fdiv_eq_ediv_of_nonneg _ (by exact Int.le_of_lt (Int.pow_pos (by omega)))]
 push_cast
 rfl
theorem Zro (c:UInt8):c.toNat<256:=c.toNat_lt
theorem Z6gb (c:UInt8):UInt8.ofNat ((c.toNat:Nat):Int).toNat=c:=by simp
def Zrk (r:Nat):Nat:=if r%2=1 then (r/2) ^^^ 3988292384 else r/2
def Zmr:Nat→Nat→Nat
 | 0,r=>r
 | n+1,r=>Zmr n (Zrk r)
def Znr:Str→Nat→Nat
 | [],r=>r
 | c::l,r=>Znr l (Zmr 8 (r ^^^ c.toNat))
def Zsg (c:Nat) (s:Str):Nat:=(Znr s (c ^^^ 4294967295)) ^^^ 4294967295
theorem x32 {a b:Nat} (ha:a<4294967296) (hb:b<4294967296):a ^^^ b<4294967296:=Yta (n:=32) ha hb
theorem Zhv {r:Nat} (h:r<4294967296):Zrk r<4294967296:=by
 unfold Zrk
 split
 ·exact x32 (by omega) (by omega)
 ·omega
theorem Ziy:∀(n:Nat) {r:Nat},r<4294967296→Zmr n r<4294967296
 | 0,_,h=>h
 | n+1,_,h=>Ziy n (Zhv h)
theorem Z22:∀(l:Str) {r:Nat},r<4294967296→Znr l r<4294967296
 | [],_,h=>h
 | c::l,r,h=>Z22 l (Ziy 8 (x32 h (by have:=Zro c;omega)))
def Zkt (n:Nat):Str:=Znb [((n%256:Nat):Int),((n/256%256:Nat):Int),((n/65536%256:Nat):Int),((n/16777216%256:Nat):Int)]
def Z4g (s:Str):Str:=s++Zkt (Zsg 0 s)
theorem Ztv (n:Nat):(Zkt n).length=4:=rfl
theorem Zq6 (s:Str):(Z4g s).length=s.length+4:=by unfold Z4g;rw [Yj,Ztv]
def Zl (s:Str):Str:=s.take (s.length-4)
theorem Zhr (s:Str):(Zl s).length=s.length-4:=by unfold Zl;simp
theorem Zpeb {a b:Str}:Z4g a=Z4g b ↔ a=b:=by
 constructor
 ·intro h
  exact List.append_inj_left' h (by rw [Ztv,Ztv])
 ·rintro rfl;rfl
theorem Zafb (s:Str):(Zkt (Zsg 0 (Zl s))=s.drop (s.length-4)) ↔ Z4g (Zl s)=s:=by
 have e:s=Zl s++s.drop (s.length-4):=(Yja _ _).symm
 unfold Z4g
 constructor
 ·intro h;rw [h];exact e.symm
 ·intro h
  exact List.append_cancel_left (h.trans e)
def Zyc (s:Str):Str×Int:=if s.length<4 then ([],4) else if Z4g (Zl s)=s then (Zl s,0) else ([],5)
theorem Zru {s:Str} (h:(Zyc s).2=0):Zyc s=(Zl s,0)∧Z4g (Zl s)=s∧4≤s.length:=by
 unfold Zyc at h ⊢
 by_cases h4:s.length<4
 ·rw [Xc h4] at h;simp at h
 ·rw [Xd h4] at h ⊢
  by_cases he:Z4g (Zl s)=s
  ·rw [Xc he];exact ⟨rfl,he,by omega⟩
  ·rw [Xd he] at h;simp at h
theorem Zbqb {s:Str} (h:(Zyc s).2≠0):(Zyc s).1=[]:=by
 unfold Zyc at h ⊢
 by_cases h4:s.length<4
 ·rw [Xc h4]
 ·rw [Xd h4] at h ⊢
  by_cases he:Z4g (Zl s)=s
  ·rw [Xc he] at h;exact absurd rfl h
  ·rw [Xd he]
theorem Zpfb (s:Str):(Zyc s).1.length≤s.length:=by
 unfold Zyc
 split
 ·simp
 ·split
  ·rw [Zhr];omega
  ·simp
def zig (n:Int):Nat:=if n<0 then (-2*n-1).toNat else (2*n).toNat
def Zkc:Nat→Nat→List Int
 | 0,_=>[]
 | f+1,u=>if 128≤u then ((u%128+128:Nat):Int)::Zkc f (u/128) else [(u:Int)]
def Zm (n:Int):Str:=Znb (Zkc 10 (zig n))
def Num (n:Int):Prop:=-9223372036854775808≤n∧n<9223372036854775808
theorem Zl7 {n:Int} (h:Num n):zig n<18446744073709551616:=by unfold Num at h;unfold zig;split <;> omega
theorem Zrab:∀(f u:Nat),(Zkc f u).length≤f
 | 0,_=>by simp [Zkc]
 | f+1,u=>by
  unfold Zkc;split
  ·simp only [Yy];have:=Zrab f (u/128);omega
  ·simp
theorem Zyk (l:List Int):(Znb l).length=l.length:=by simp [Znb]
theorem Zhc (n:Int):(Zm n).length≤10:=by
 unfold Zm
 rw [Zyk]
 exact Zrab 10 _
theorem Zx5 (n:Int):1≤(Zm n).length:=by
 unfold Zm
 rw [Zyk]
 unfold Zkc
 split <;> simp
def Z3b (s:Str):Str:=Zm (s.length:Int)++s
theorem Zij (s:Str):(Z3b s).length≤10+s.length:=by
 unfold Z3b
 have:=Zhc (s.length:Int)
 rw [Yj]
 omega
def unz (u:Nat):Int:=if u%2=1 then -((u/2:Nat):Int)-1 else ((u/2:Nat):Int)
def gn:Nat→Nat→Nat→Str→Int×Nat×Int
 | 0,_,_,_=>(0,0,3)
 | _+1,_,_,[]=>(0,0,4)
 | f+1,i,u,b::l=>if i=9∧1<b.toNat then (0,0,3) else if 128≤b.toNat then gn f (i+1) (u+b.toNat%128*128^i) l else if b.toNat=0∧0<i then (0,0,3) else (unz (u+b.toNat%128*128^i),i+1,0)
def fin (a:Nat) (r:Int×Nat×Int):Int×Int×Int:=if r.2.2=0 then (r.1,((a+r.2.1:Nat):Int),0) else (0,0,r.2.2)
def Zdd (s:Str) (a:Nat):Int×Int×Int:=fin a (gn 10 0 0 (s.drop a))
theorem Zq5 (i:Nat):(2:Nat)^(7*i)=128^i:=by rw [Nat.pow_mul]
theorem Zb1 {i u b:Nat} (_:i≤8) (hu:u<128^i):u+b%128*128^i<128^(i+1):=by
 have h1:b%128≤127:=by omega
 have h2:b%128*128^i≤127*128^i:=Y8 _ h1
 rw [Yq]
 omega
theorem Zrcb {i:Nat} (hi:i≤9):128^i≤9223372036854775808:=by
 have:128^i≤128^9:=Yqa (by omega) hi
 simpa using this
theorem Zefb {i b:Nat} (hi:i≤9) (h9:i=9→b≤1):b%128*128^i<18446744073709551616:=by
 by_cases h:i=9
 ·have:=h9 h
  subst h;have:b%128≤1:=by omega
  have:=Y8 (128^9) this;simp at this ⊢;omega
 ·have h1:128^i≤128^8:=Yqa (by omega) (by omega)
  have h2:b%128≤127:=by omega
  have:=Nat.mul_le_mul h2 h1;simp at this;omega
theorem Z26 {i u b:Nat} (hi:i≤9) (hu:u<128^i) (h9:i=9→b≤1):u+b%128*128^i<18446744073709551616:=by
 by_cases h:i=9
 ·have:=h9 h
  subst h;have h1:b%128≤1:=by omega
  have:=Y8 (128^9) h1;simp at this hu ⊢;omega
 ·have h1:=Zb1 (b:=b) (show i≤8 by omega) hu
  have h2:=Zrcb (show i+1≤9 by omega);omega
theorem Zteb {i b:Nat} (hi:i≤9) (h9:i=9→b≤1):shl .u64 ((b%128:Nat):Int) ((7*i:Nat):Int)=((b%128*128^i:Nat):Int):=by
 unfold shl
 rw [Ye,Yoa (by simp [Ym];omega),Zih]
 have e:((b%128:Nat):Int)*2^(7*i)=((b%128*128^i:Nat):Int):=by rw [← Zq5];push_cast;rfl
 rw [e]
 have:=Zefb hi h9
 omega
theorem Zpmb {i u b:Nat} (hu:u<128^i):u ||| (b%128*128^i)=u+b%128*128^i:=by
 have h:=@Nat.shiftLeft_add_eq_or_of_lt (7*i) u (by rw [Zq5];exact hu) (b%128)
 rw [Nat.shiftLeft_eq,Zq5] at h
 rw [Nat.or_comm,← h,Yla]
theorem Zmqb (v:Nat):zig (unz v)=v:=by
 unfold unz
 split
 ·unfold zig;split <;> omega
 ·unfold zig;split <;> omega
theorem Zdqb (n:Int):unz (zig n)=n:=by
 unfold zig
 split
 ·unfold unz;split <;> omega
 ·unfold unz;split <;> omega
theorem Zcqb {v:Nat} (h:v<18446744073709551616):Num (unz v):=by
 unfold Num unz
 split <;> omega
theorem Zlab:∀(f i u:Nat) (l:Str),i+f=10→i≤9→u<128^i→(gn f i u l).2.2=0 →
  ∃v,gn f i u l=(unz (u+v*128^i),i+(Zkc f v).length,0)∧l=Znb (Zkc f v)++l.drop (Zkc f v).length∧u+v*128^i<18446744073709551616∧(0<i→v≠0)
 | 0,i,u,l,hf,h9,_,_=>by omega
 | f+1,i,u,[],hf,h9,hu,h0=>by simp [gn] at h0
 | f+1,i,u,c::l,hf,hi9,hu,h0=>by
  have hb:=Zro c;have hbc:=Z6gb c;simp only [gn] at h0 ⊢;generalize hcb:c.toNat=b at h0 hb hbc ⊢
  by_cases h9:i=9∧1<b
  ·rw [Xc h9] at h0;simp at h0
  rw [Xd h9] at h0 ⊢
  have hb9:i=9→b≤1:=fun h=>by
   rcases Y7 1 b with h1 | h1
   ·exact absurd ⟨h,h1⟩ h9
   ·exact h1
  by_cases h128:128≤b
  ·have hi8:i≤8:=by
    by_cases h:i=9
    ·have:=hb9 h;omega
    ·omega
   rw [Xc h128] at h0 ⊢;obtain ⟨v,e1,e2,e3,e4⟩:=Zlab f (i+1) (u+b%128*128^i) l (by omega) (by omega) (Zb1 hi8 hu) h0;have hv:=e4 (by omega)
   have hs:u+b%128*128^i+v*128^(i+1)=u+(b%128+128*v)*128^i:=by
    rw [Yq,Nat.add_mul,Yw (128^i) 128,← Ypa,Yw v 128,Y6]
   have hg:Zkc (f+1) (b%128+128*v)=(b:Int)::Zkc f v:=by
    have h1:128≤b%128+128*v:=by omega
    have h2:(b%128+128*v)/128=v:=by omega
    have h3:(b%128+128*v)%128+128=b:=by omega
    simp only [Zkc,Xc h1,h2,h3]
   refine ⟨b%128+128*v,?_,?_,?_,?_⟩
   ·rw [e1,hs,hg,Yy,Y6,Yla 1]
   ·rw [hg]
    show c::l=UInt8.ofNat ((b:Nat):Int).toNat::(Znb (Zkc f v)++l.drop (Zkc f v).length);rw [hbc,← e2]
   ·rw [← hs];exact e3
   ·intro _;omega
  ·rw [Xd h128] at h0 ⊢
   by_cases hz:b=0∧0<i
   ·rw [Xc hz] at h0;simp at h0
   rw [Xd hz] at h0 ⊢;have hm:b%128=b:=by omega
   have hsl:=Z26 (b:=b) hi9 hu hb9;rw [hm] at hsl ⊢;have hg:Zkc (f+1) b=[(b:Int)]:=by simp only [Zkc,Xd h128]
   refine ⟨b,?_,?_,hsl,?_⟩
   ·rw [hg];rfl
   ·rw [hg]
    show c::l=UInt8.ofNat ((b:Nat):Int).toNat::l;rw [hbc]
   ·intro hi hb0;exact hz ⟨hb0,hi⟩
structure Got (s:Str) (a:Nat) (n:Int) (a':Nat):Prop where
 at':a'=a+(Zm n).length
 le:a'≤s.length
 eq:s.drop a=Zm n++s.drop a'
 range:Num n
theorem Z0k (s:Str) (a:Nat):(∃(n:Int) (a':Nat),Zdd s a=(n,(a':Int),0)∧Got s a n a')∨∃c,c≠0∧Zdd s a=(0,0,c):=by
 unfold Zdd fin
 by_cases h:(gn 10 0 0 (s.drop a)).2.2=0
 ·left
  obtain ⟨v,e1,e2,e3,_⟩:=Zlab 10 0 0 (s.drop a) (by omega) (by omega) (by omega) h;simp only [Yra,Nat.mul_one,Yr] at e1 e3;have hB:Zm (unz v)=Znb (Zkc 10 v):=by unfold Zm;rw [Zmqb]
  have hsz:(Zm (unz v)).length=(Zkc 10 v).length:=by rw [hB,Zyk]
  refine ⟨unz v,a+(Zm (unz v)).length,?_,rfl,?_,?_,Zcqb e3⟩
  ·rw [e1,hsz]
   rfl
  ·have:=congrArg Yga e2
   simp only [Yj,Zyk,Yha] at this;have hp:0<(Zkc 10 v).length:=by unfold Zkc;split <;> simp
   omega
  ·rw [hsz,← Yea,hB]
   exact e2
 ·right
  exact ⟨_,h,by rw [Xd h]⟩
theorem Zmab:∀(f i u v:Nat) (l:Str),i+f=10→i≤9→v<128^f→u+v*128^i<18446744073709551616→(0<i→v≠0)→gn f i u (Znb (Zkc f v)++l)=(unz (u+v*128^i),i+(Zkc f v).length,0)
 | 0,i,u,v,l,hf,h9,_,_,_=>by omega
 | f+1,i,u,v,l,hf,hi9,hv,hb,hz=>by
  have h9':i=9→v≤1:=fun h=>by subst h;simp at hb;omega
  by_cases h128:128≤v
  ·have hi8:i≤8:=by
    by_cases h:i=9
    ·have:=h9' h;omega
    ·omega
   have hg:Zkc (f+1) v=((v%128+128:Nat):Int)::Zkc f (v/128):=by simp only [Zkc,Xc h128]
   have ht:(UInt8.ofNat (((v%128+128:Nat):Int)).toNat).toNat=v%128+128:=by
    rw [Ye,UInt8.toNat_ofNat'];omega
   rw [hg];show gn (f+1) i u (UInt8.ofNat (((v%128+128:Nat):Int)).toNat::(Znb (Zkc f (v/128))++l))=_;simp only [gn];rw [ht,Xd (by omega),Xc (by omega)]
   have hs:u+(v%128+128)%128*128^i+v/128*128^(i+1)=u+v*128^i:=by
    have e:(v%128+128)%128=v%128:=by omega
    have e2:v%128*128^i+v/128*(128*128^i)=v*128^i:=by
     rw [← Ypa,← Nat.add_mul];congr 1;omega
    rw [e,Yq,Yw (128^i) 128,Y6,e2]
   rw [Zmab f (i+1) _ (v/128) l (by omega) (by omega) (by rw [Yq] at hv;exact Yna (by rw [Yw];exact hv)) (by rw [hs];exact hb) (fun _=>by omega),hs];simp only [Yy,Prod.mk.injEq,and_true,true_and];omega
  ·have hg:Zkc (f+1) v=[(v:Int)]:=by simp only [Zkc,Xd h128]
   have ht:(UInt8.ofNat ((v:Int)).toNat).toNat=v:=by
    rw [Ye,UInt8.toNat_ofNat'];omega
   rw [hg];show gn (f+1) i u (UInt8.ofNat ((v:Int)).toNat::l)=_;simp only [gn];rw [ht,Xd (fun q=>by have:=h9' q.1;omega),Xd h128,Xd (fun q=>hz q.2 q.1),Yg (by omega)];rfl
theorem Zwv (n:Int) (h:Num n) (s:Str) (a:Nat) (t:Str) (hs:s.drop a=Zm n++t):Zdd s a=(n,((a+(Zm n).length:Nat):Int),0):=by
 unfold Zdd
 have hz:=Zl7 h
 rw [hs]
 unfold Zm
 rw [Zmab 10 0 0 (zig n) t rfl (by omega) (by omega) (by omega) (fun q=>absurd q (by omega))]
 simp only [Yra,Nat.mul_one,Yr,Zdqb,Zyk]
 rfl
def Znh (s:Str) (a:Nat):Str×Int×Int:=if (Zdd s a).2.2=0 then if 0≤(Zdd s a).1∧(Zdd s a).1≤8000 then if (Zdd s a).1 > (s.length:Int)-(Zdd s a).2.1 then ([],0,4) else ((s.take ((Zdd s a).2.1+(Zdd s a).1).toNat).drop (Zdd s a).2.1.toNat,(Zdd s a).2.1+(Zdd s a).1,0) else ([],0,3) else ([],0,(Zdd s a).2.2)
structure GotT (s:Str) (a:Nat) (t:Str) (a':Nat):Prop where
 at':a'=a+(Z3b t).length
 le:a'≤s.length
 eq:s.drop a=Z3b t++s.drop a'
 size:t.length≤8000
theorem Z2q (s:Str) (a:Nat):(∃t a',Znh s a=(t,((a':Nat):Int),0)∧GotT s a t a')∨∃c,c≠0∧Znh s a=([],0,c):=by
 unfold Znh
 rcases Z0k s a with ⟨n,a',e,g⟩ | ⟨c,hc,e⟩
 ·rw [e]
  simp only [if_true]
  by_cases hn:0≤n∧n≤8000
  ·rw [Xc hn]
   have hle:=g.le
   by_cases hs:n > (s.length:Int)-(a':Int)
   ·rw [Xc hs]
    exact .inr ⟨4,by omega,rfl⟩
   ·rw [Xd hs]
    obtain ⟨m,rfl⟩:∃m:Nat,n=(m:Int):=⟨n.toNat,by omega⟩;have e1:((a':Int)+(m:Int)).toNat=a'+m:=by omega
    rw [e1,Ye]
    have hB:(s.take (a'+m)).drop a'=(s.drop a').take m:=by
     rw [List.drop_take,Nat.add_sub_cancel_left]
    have hsz:((s.take (a'+m)).drop a').length=m:=by
     rw [hB,List.length_take,Yha];omega
    refine .inl ⟨_,a'+m,by push_cast;rfl,?_,?_,?_,?_⟩
    ·unfold Z3b
     rw [Yj,hsz];have:=g.at';omega
    ·omega
    ·unfold Z3b
     rw [hsz,hB,g.eq,Yn,← Yea,Yja]
    ·rw [hsz];omega
  ·rw [Xd hn]
   exact .inr ⟨3,by omega,rfl⟩
 ·rw [e]
  simp only;rw [Xd hc];exact .inr ⟨c,hc,rfl⟩
def Zib (s:Str) (a:Nat):Int×Str×Int×Bool:=if (Zdd s a).2.2=0 then ((Zdd s a).1,s,(Zdd s a).2.1,false) else (0,s,(a:Int),true)
theorem Z2t (s:Str) (a:Nat):(∃n a',Zib s a=(n,s,((a':Nat):Int),false)∧Got s a n a')∨Zib s a=(0,s,(a:Int),true):=by
 unfold Zib
 rcases Z0k s a with ⟨n,a',e,g⟩ | ⟨c,hc,e⟩
 ·left;exact ⟨n,a',by rw [e];rfl,g⟩
 ·right;rw [e,Xd hc]
def Z4f (s:Str) (a:Nat):Str×Str×Int×Bool:=if (Znh s a).2.2=0 then ((Znh s a).1,s,(Znh s a).2.1,false) else ([],s,(a:Int),true)
theorem Zffb (s:Str) (a:Nat):(∃t a',Z4f s a=(t,s,((a':Nat):Int),false)∧GotT s a t a')∨Z4f s a=([],s,(a:Int),true):=by
 unfold Z4f
 rcases Z2q s a with ⟨n,a',e,g⟩ | ⟨c,hc,e⟩
 ·left;exact ⟨n,a',by rw [e];rfl,g⟩
 ·right;rw [e,Xd hc]
theorem Zfi (a b:Int):(a==b)=decide (a=b):=by rw [Yba];simp
theorem Zsab (r:Nat):shr .u32 (r:Int) 1=((r/2:Nat):Int):=Zpi .u32 r 1 (by decide)
theorem sl0:∀(n r j:Nat),n≤8→r<4294967296→n<j→Z9b.l0 j (r:Int) ((8-n:Nat):Int)=some ((Zmr n r:Nat):Int)
 | n,r,0,_,_,h=>absurd h (Yk n)
 | 0,r,j+1,_,_,_=>by
  unfold Z9b.l0;rfl
 | n+1,r,j+1,hn,hr,hj=>by
  have e:Yb .i64 (((8-(n+1):Nat):Int)+1)=((8-n:Nat):Int):=by rw [w64] <;> omega
  unfold Z9b.l0;rw [Xa (by omega:(((8-(n+1):Nat):Int))<8),Zd8 _ hr,Zsab,e,Z3c (by omega),Zfi];simp only [Xe,Yd]
  by_cases hp:r%2=1
  ·rw [Xa (by omega:((r%2:Nat):Int)=1),show (3988292384:Int)=((3988292384:Nat):Int) from rfl,Zpo _ _ (by omega) (by omega)]
   have e2:Zrk r=r/2 ^^^ 3988292384:=by unfold Zrk;rw [Xc hp]
   rw [Xe,← e2];exact sl0 n (Zrk r) j (by omega) (Zhv hr) (by omega)
  ·rw [Xb (by omega:¬(((r%2:Nat):Int)=1))]
   have e2:Zrk r=r/2:=by unfold Zrk;rw [Xd hp]
   rw [Xf,← e2];exact sl0 n (Zrk r) j (by omega) (Zhv hr) (by omega)
theorem sl1 (x:Str) (hx:x.length≤140737488351232) (k:Nat) (hk:9≤k):∀(d i r j:Nat),x.length-i=d→i≤x.length→r<4294967296→d<j→Z9b.l1 k j x (r:Int) (i:Int)=some ((Znr (x.drop i) r:Nat):Int)
 | d,i,r,0,_,_,_,h=>absurd h (Yk d)
 | 0,i,r,j+1,hd,hi,hr,_=>by
  unfold Z9b.l1;rw [Xb (by omega:¬((i:Int)<(x.length:Int))),Y2 (by omega)];rfl
 | d+1,i,r,j+1,hd,hi,hr,hj=>by
  have hlt:i<x.length:=by omega
  have hc:=Zro x[i];unfold Z9b.l1;rw [Xa (by omega:(i:Int)<(x.length:Int)),Zi hlt];simp only [Xe,Yd];have hxr:=x32 hr (show x[i].toNat<4294967296 by omega);rw [Zts,show (((x[i].toNat:Nat):Int)%4294967296)=((x[i].toNat:Nat):Int) by omega,Zpo _ _ hr (by omega),Zn (by omega)];have h8:=sl0 8 (r ^^^ x[i].toNat) k (Yv _) hxr (by omega);have h8:Z9b.l0 k ((r ^^^ x[i].toNat:Nat):Int) 0=some ((Zmr 8 (r ^^^ x[i].toNat):Nat):Int):=h8;rw [h8,Yo hlt];simp only [Yd];exact sl1 x hx k hk d (i+1) _ j (by omega) (by omega) (Ziy 8 hxr) (by omega)
theorem sCrc (c:Nat) (s:Str) (hc:c<4294967296) (hs:s.length≤140737488351232):Ze fun k=>Z9b k (c:Int) s=some ((Zsg c s:Nat):Int):=by
 refine Ze.ge (s.length+9) fun k hk=>?_
 have h:=sl1 s hs k (by omega) s.length 0 (c ^^^ 4294967295) k (by omega) (by omega) (x32 hc (by omega)) (by omega)
 have h:Z9b.l1 k k s ((c ^^^ 4294967295:Nat):Int) 0=some ((Znr s (c ^^^ 4294967295):Nat):Int):=h
 unfold Z9b
 rw [Zts,show ((c:Int)%4294967296)=(c:Int) by omega,show (4294967295:Int)=((4294967295:Nat):Int) from rfl,Zpo _ _ hc (by omega),h]
 simp only [Yd]
 have hl:=Z22 s (x32 hc (show 4294967295<4294967296 by omega))
 have hl2:=x32 hl (show 4294967295<4294967296 by omega)
 rw [Zpo _ _ hl (by omega),w64 (by omega) (by omega)]
 rfl
theorem il0 (x:Str) (i:Nat) (hi:i<x.length):∀(n s r j:Nat),n≤8→s<4294967296→r=s ^^^ (x[i].toNat/2^(8-n))→n<j→Zec.l0 j x (r:Int) (i:Int) ((8-n:Nat):Int)=some ((Zmr n s:Nat):Int)
 | n,s,r,0,_,_,_,h=>absurd h (Yk n)
 | 0,s,r,j+1,_,_,hr,_=>by
  have hc:=Zro x[i];have:x[i].toNat/2^(8-0)=0:=Nat.div_eq_of_lt (by simpa using hc);rw [this,Yua] at hr;subst hr;unfold Zec.l0;rfl
 | n+1,s,r,j+1,hn,hs,hr,hj=>by
  have hc:=Zro x[i];have e:Yb .i64 (((8-(n+1):Nat):Int)+1)=((8-n:Nat):Int):=by rw [w64] <;> omega
  have ih:=il0 x i hi n (Zrk s);unfold Zec.l0;rw [Xa (by omega:(((8-(n+1):Nat):Int))<8),Zi hi];simp only [Xe,Yd];generalize x[i].toNat=c at hc hr ih ⊢;have hcd:c/2^(8-(n+1))<256:=Nat.lt_of_le_of_lt (Nat.div_le_self _ _) hc;have hrl:r<4294967296:=by rw [hr];exact x32 hs (by omega)
  have hsr:r ^^^ (c/2^(8-(n+1)))=s:=by rw [hr,Yz,Nat.xor_self,Yua]
  have hhalf:r/2=s/2 ^^^ (c/2^(8-n)):=by
   have e1:c/2^(8-n)=(c/2^(8-(n+1)))/2:=by rw [Nat.div_div_eq_div_mul,← Yq];congr 2;omega
   rw [hr,e1];have:=@Nat.shiftRight_xor_distrib 1 s (c/2^(8-(n+1)));simpa [Nat.shiftRight_eq_div_pow] using this
  rw [Zts,show ((c:Int)%4294967296)=(c:Int) by omega,Zpi .u32 c (8-(n+1)) (by show 8-(n+1)≤32;omega),Zpo _ _ hrl (by omega),hsr,Zd8 _ hs,Zsab,e,Z3c (by omega),Z3c (by omega),Zfi];simp only [Yd]
  by_cases hp:s%2=1
  ·rw [Xa (by omega:((s%2:Nat):Int)=1),show (3988292384:Int)=((3988292384:Nat):Int) from rfl,Zpo _ _ (by omega) (by omega),Xe]
   refine ih _ j (by omega) (Zhv hs) ?_ (by omega);unfold Zrk;rw [Xc hp,hhalf,Yz,Yz,Y9 (c/2^(8-n))]
  ·rw [Xb (by omega:¬(((s%2:Nat):Int)=1)),Xf]
   refine ih _ j (by omega) (Zhv hs) ?_ (by omega);unfold Zrk;rw [Xd hp,hhalf]
theorem il1 (x:Str) (hx:x.length≤140737488351232) (k:Nat) (hk:9≤k):∀(d i r j:Nat),x.length-i=d→i≤x.length→r<4294967296→d<j→Zec.l1 k j x (r:Int) (x.length:Int) (i:Int)=some ((Znr (x.drop i) r:Nat):Int)
 | d,i,r,0,_,_,_,h=>absurd h (Yk d)
 | 0,i,r,j+1,hd,hi,hr,_=>by
  unfold Zec.l1;rw [Xb (by omega:¬((i:Int)<(x.length:Int))),Y2 (by omega)];rfl
 | d+1,i,r,j+1,hd,hi,hr,hj=>by
  have hlt:i<x.length:=by omega
  have hc:=Zro x[i];unfold Zec.l1;rw [Xa (by omega:(i:Int)<(x.length:Int))];have hxr:=x32 hr (show x[i].toNat<4294967296 by omega);have h8:=il0 x i hlt 8 (r ^^^ x[i].toNat) r k (Yv _) hxr (by simp [Yz]) (by omega);have h8:Zec.l0 k x (r:Int) (i:Int) 0=some ((Zmr 8 (r ^^^ x[i].toNat):Nat):Int):=h8;rw [h8,Yo hlt];simp only [Xe,Yd];rw [Zn (by omega)];exact il1 x hx k hk d (i+1) _ j (by omega) (by omega) (Ziy 8 hxr) (by omega)
theorem iCrc (c:Nat) (s:Str) (hc:c<4294967296) (hs:s.length≤140737488351232):Ze fun k=>Zec k (c:Int) s=some ((Zsg c s:Nat):Int):=by
 refine Ze.ge (s.length+9) fun k hk=>?_
 have h:=il1 s hs k (by omega) s.length 0 (c ^^^ 4294967295) k (by omega) (by omega) (x32 hc (by omega)) (by omega)
 have h:Zec.l1 k k s ((c ^^^ 4294967295:Nat):Int) (s.length:Int) 0=some ((Znr s (c ^^^ 4294967295):Nat):Int):=h
 unfold Zec
 rw [show (Yda .u32:Int)=((4294967295:Nat):Int) from rfl,Zpo _ _ (by omega) hc,Y9,h]
 simp only [Yd]
 have hl:=Z22 s (x32 hc (show 4294967295<4294967296 by omega))
 rw [Zpo _ _ (by omega) hl,Y9]
 rfl
theorem Z2db (n:Nat):Z9m (n:Int)=some (Zkt n):=by
 unfold Z9m Zkt
 have h8:=Zpi .i64 n 8 (by decide)
 have h16:=Zpi .i64 n 16 (by decide)
 have h24:=Zpi .i64 n 24 (by decide)
 have h8:shr .i64 (n:Int) 8=((n/256:Nat):Int):=h8
 have h16:shr .i64 (n:Int) 16=((n/65536:Nat):Int):=h16
 have h24:shr .i64 (n:Int) 24=((n/16777216:Nat):Int):=h24
 rw [Z3c (by omega),Z3c (by omega),Z3c (by omega)]
 simp only [Yd]
 rw [h8,h16,h24,u8w,u8w,u8w,u8w]
 rfl
theorem Zk6 (s:Str) (hs:s.length≤7996):Ze fun k=>Z7k k s=some (Z4g s):=by
 refine (sCrc 0 s (by omega) (by omega)).mono fun k h=>?_
 have h:Z9b k 0 s=some ((Zsg 0 s:Nat):Int):=h
 unfold Z7k
 rw [Xb (by omega:¬(7996<(s.length:Int))),h]
 simp only [Xf,Yd]
 rw [Z2db]
 simp only [Yd]
 rw [Zvc (by rw [Ztv];omega)]
 rfl
theorem Z7y (s:Str) (hs:s.length≤140737488351232):Ze fun k=>Zdj k s=some (Z4g s):=by
 refine (iCrc 0 s (by omega) (by omega)).mono fun k h=>?_
 have h:Zec k 0 s=some ((Zsg 0 s:Nat):Int):=h
 have h8:=Zpi .u32 (Zsg 0 s) 8 (by decide)
 have h16:=Zpi .u32 (Zsg 0 s) 16 (by decide)
 have h24:=Zpi .u32 (Zsg 0 s) 24 (by decide)
 have h8:shr .u32 ((Zsg 0 s:Nat):Int) 8=((Zsg 0 s/256:Nat):Int):=h8
 have h16:shr .u32 ((Zsg 0 s:Nat):Int) 16=((Zsg 0 s/65536:Nat):Int):=h16
 have h24:shr .u32 ((Zsg 0 s:Nat):Int) 24=((Zsg 0 s/16777216:Nat):Int):=h24
 unfold Zdj
 rw [h,Z3c (by omega),Z3c (by omega),Z3c (by omega)]
 simp only [Yd]
 rw [h8,h16,h24,u8w,u8w,u8w,u8w]
 have e:Znb [((Zsg 0 s:Nat):Int)%256,((Zsg 0 s/256:Nat):Int)%256,((Zsg 0 s/65536:Nat):Int)%256,((Zsg 0 s/16777216:Nat):Int)%256]=Zkt (Zsg 0 s):=rfl
 rw [e,Zvc (by rw [Ztv];omega)]
 rfl
theorem Zdr (s t:Str):(s==t)=decide (s=t):=by rw [Yba];simp
theorem Zot (s:Str) (hs:s.length≤140737488351232):Ze fun k=>Zvk k s=some (Zyc s):=by
 refine (Z7y (Zl s) (by rw [Zhr];omega)).mono fun k h=>?_
 unfold Zvk Zyc
 by_cases h4:s.length<4
 ·rw [Xa (by omega:(s.length:Int)<4),Xc h4]
  rfl
 ·rw [Xb (by omega:¬((s.length:Int)<4)),Xd h4,w64 (by omega) (by omega),show ((s.length:Int)-4)=((s.length-4:Nat):Int) by omega]
  have hc:=Znf (l:=s) (i:=0) (j:=s.length-4) (by omega) (by omega);have hc:Zob s 0 ((s.length-4:Nat):Int)=some (Zl s):=hc;rw [hc];simp only [Xf,Yd];rw [h];simp only [Yd,Zdr]
  by_cases he:Z4g (Zl s)=s
  ·rw [Xc he,Xa he];rfl
  ·rw [Xd he,Xb he];rfl
theorem Zyl (s:Str) (hs:s.length≤8000):Ze fun k=>Z8k k s=some ((Zyc s).1,0,(Zyc s).2):=by
 refine (sCrc 0 (Zl s) (by omega) (by rw [Zhr];omega)).mono fun k h=>?_
 have h:Z9b k 0 (Zl s)=some ((Zsg 0 (Zl s):Nat):Int):=h
 unfold Z8k Zyc
 rw [Xb (by omega:¬(8000<(s.length:Int)))]
 by_cases h4:s.length<4
 ·rw [Xa (by omega:(s.length:Int)<4),Xc h4]
  rfl
 ·rw [Xb (by omega:¬((s.length:Int)<4)),Xd h4,w64 (by omega) (by omega),show ((s.length:Int)-4)=((s.length-4:Nat):Int) by omega]
  have hc:=Znf (l:=s) (i:=0) (j:=s.length-4) (by omega) (by omega);have hc:Zob s 0 ((s.length-4:Nat):Int)=some (Zl s):=hc;have hd:=Znf (l:=s) (i:=s.length-4) (j:=s.length) (by omega) (by omega);rw [Yka] at hd;simp only [Xf];rw [hc];simp only [Yd];rw [h];simp only [Yd];rw [Z2db,hd];simp only [Yd,Zdr]
  by_cases he:Z4g (Zl s)=s
  ·rw [Xc he,Xa ((Zafb s).2 he)];rfl
  ·rw [Xd he,Xb (fun q=>he ((Zafb s).1 q))];rfl
theorem Zaob (n:Int) (h:Num n):Zsq n=some ((zig n:Nat):Int):=by
 unfold Num at h
 unfold Zsq zig
 simp only [Zih]
 by_cases hn:n<0
 ·rw [Xa hn,Xc hn,w64 (n:=n+1) (by omega) (by omega),w64 (by omega) (by omega)]
  rw [Xe];congr 1;omega
 ·rw [Xb hn,Xd hn,Xf]
  congr 1;omega
theorem sput:∀(f u:Nat) (acc:List Int) (j:Nat),u<128^f→u<18446744073709551616→acc.length+f≤100→0<f→f<j+1→∃p:Int×List Int,Z8b.l0 j (u:Int) acc=some p∧p.2.length≤100∧p.2++[Yb .u8 p.1]=acc++Zkc f u
 | 0,_,_,_,_,_,_,h,_=>absurd h (by omega)
 | f+1,u,acc,0,hu,hb,hl,_,hj=>by omega
 | f+1,u,acc,j+1,hu,hb,hl,_,hj=>by
  unfold Z8b.l0
  by_cases h:128≤u
  ·have hf:0<f:=by
    rcases Nat.eq_zero_or_pos f with rfl | h'
    ·simp at hu;omega
    ·exact h'
   obtain ⟨p,e,e1,e2⟩:=sput f (u/128) (acc++[((u%128+128:Nat):Int)]) j (by rw [Yq] at hu;exact Yna (by rw [Yw];exact hu)) (by omega) (by simp;omega) hf (by omega);refine ⟨p,?_,e1,?_⟩
   ·rw [Xa (by omega:(128:Int)≤(u:Int)),Z7p (by omega:(128:Int)≠0)]
    simp only [Xe,Yd];rw [Z4 (by simp;omega),u8w,Zih,Zih,Y1 (by omega),Yca (by omega)];simp only [Yd];rw [show (((u:Int)/128)%18446744073709551616)=((u/128:Nat):Int) by omega,show ((((u:Int)%128+128)%18446744073709551616)%256)=((u%128+128:Nat):Int) by omega];exact e
   ·rw [e2,Yn]
    simp [Zkc,h]
  ·refine ⟨((u:Int),acc),?_,by show acc.length≤100;omega,?_⟩
   ·rw [Xb (by omega:¬((128:Int)≤(u:Int)))]
    rfl
   ·show acc++[Yb .u8 (u:Int)]=_
    rw [u8w,show ((u:Int)%256)=(u:Int) by omega];simp [Zkc,h]
theorem Zyi (n:Int) (h:Num n):Ze fun k=>Z8b k n=some (Zm n):=by
 refine Ze.ge 10 fun k hk=>?_
 have hz:=Zl7 h
 obtain ⟨p,e,e1,e2⟩:=sput 10 (zig n) [] k (by omega) hz (by simp) (by omega) (by omega)
 unfold Z8b
 rw [Zaob n h]
 simp only [Yd]
 rw [e]
 simp only [Yd]
 rw [Z4 (by simp;omega),e2]
 rfl
theorem Zs9 (s:Str) (j:Nat):(s.drop j=[]∧s.length≤j)∨∃h:j<s.length,s.drop j=s[j]::s.drop (j+1):=by
 by_cases h:j<s.length
 ·exact .inr ⟨h,Yo h⟩
 ·exact .inl ⟨Y2 (by omega),by omega⟩
theorem sgn (s:Str) (hs:s.length≤140737488351232) (a:Nat) (ha:a<9223372036854775000):∀(f i u j:Nat),i+f=10→i≤9→u<128^i→(0<i→a+i≤s.length)→f<j→Zld.l0 j s (a:Int) (u:Int) (i:Int) 0 0 0=some (.inr (fin a (gn f i u (s.drop (a+i)))))
 | f,i,u,0,_,_,_,_,h=>absurd h (Yk f)
 | 0,i,u,j+1,hf,h9,hu,hz,_=>by omega
 | f+1,i,u,j+1,hf,hi9,hu,hz,hj=>by
  unfold Zld.l0;rw [Xa (by omega:(i:Int)<10),w64 (n:=(s.length:Int)-(i:Int)) (by omega) (by omega),Xe];rcases Zs9 s (a+i) with ⟨hd,hlen⟩ | ⟨hlt,hd⟩
  ·rw [Xa (by omega:(s.length:Int)-(i:Int)≤(a:Int)),hd]
   rfl
  ·rw [Xb (by omega:¬((s.length:Int)-(i:Int)≤(a:Int))),w64 (n:=(a:Int)+(i:Int)) (by omega) (by omega),show ((a:Int)+(i:Int))=((a+i:Nat):Int) by omega]
   simp only [Xf];rw [Zi hlt,hd];simp only [Yd,gn];have hb:=Zro s[a+i];have ih:=fun u'=>sgn s hs a ha f (i+1) u' j
   generalize s[a+i].toNat=b at hb ⊢;rw [Zih (b:Int),show ((b:Int)%18446744073709551616)=(b:Int) by omega,Zfi,Z7p (by omega:(128:Int)≠0)]
   by_cases h9:i=9∧1<b
   ·rw [Xa (by omega:(i:Int)=9),Xa (by omega:(1:Int)<(b:Int)),Xc h9]
    rfl
   ·rw [Xd h9,show (decide ((i:Int)=9)&&decide ((1:Int)<(b:Int)))=false by
     by_cases h:i=9
     ·rw [Xb (by omega:¬((1:Int)<(b:Int))),Ys]
     ·rw [Xb (by omega:¬((i:Int)=9))];rfl]
    have hb9:i=9→b≤1:=fun h=>by
     rcases Y7 1 b with h1 | h1
     ·exact absurd ⟨h,h1⟩ h9
     ·exact h1
    have hsl:=Z26 (b:=b) (show i≤9 by omega) hu hb9
    have hv:Yb .u64 ((u:Int)+shl .u64 (Int.tmod (b:Int) 128) (Yb .u64 (Yb .i64 (7*(i:Int)))))=((u+b%128*128^i:Nat):Int):=by
     rw [w64 (by omega) (by omega),Zih (7*(i:Int)),show (7*(i:Int))%18446744073709551616=((7*i:Nat):Int) by omega,Y1 (by omega),show (b:Int)%128=((b%128:Nat):Int) by omega,Zteb (by omega) hb9,Zih];omega
    have hn:Zwb (Yb .u64 (Yb .i64 (7*(i:Int))))=some ():=Z3c (by rw [Zih];omega);simp only [Xf,Yd];rw [hn];simp only [Yd];rw [hv]
    by_cases h128:128≤b
    ·have hi8:i≤8:=by
      by_cases h:i=9
      ·have:=hb9 h;omega
      ·omega
     rw [Xb (by omega:¬((b:Int)<128)),Xc h128,Xf,Zn (by omega),show a+i+1=a+(i+1) by omega];exact ih _ (by omega) (by omega) (Zb1 hi8 hu) (fun _=>by omega) (by omega)
    ·rw [Xa (by omega:((b:Int)<128)),Xd h128,Xe,Zfi]
     by_cases h0:b=0∧0<i
     ·rw [Xa (by omega:(b:Int)=0),Xa (by omega:(0:Int)<(i:Int)),Xc h0]
      rfl
     ·rw [Xd h0,show (decide ((b:Int)=0)&&decide ((0:Int)<(i:Int)))=false by
       by_cases h:b=0
       ·rw [Xb (by omega:¬((0:Int)<(i:Int))),Ys]
       ·rw [Xb (by omega:¬((b:Int)=0))];rfl]
      generalize u+b%128*128^i=v at hsl
      have e2:Yb .i64 (Yb .u64 (Int.tdiv (v:Int) 2))=((v/2:Nat):Int):=by
       rw [Yca (by omega),Zih,w64 (by omega) (by omega)];omega
      rw [Xf,Z7p (by omega:(2:Int)≠0)];simp only [Yd];rw [Zn (by omega),e2,Y1 (by omega),Zfi];unfold fin unz
      by_cases hp:v%2=1
      ·rw [Xa (by omega:(v:Int)%2=1),Xc hp,w64 (n:=0-((v/2:Nat):Int)) (by omega) (by omega),w64 (by omega) (by omega),Xe,show (0-((v/2:Nat):Int)-1) = -((v/2:Nat):Int)-1 by omega]
       rfl
      ·rw [Xb (by omega:¬((v:Int)%2=1)),Xd hp]
       rfl
theorem ign (s:Str) (hs:s.length≤140737488351232) (a:Nat) (ha:a<9223372036854775000):∀(f i u j:Nat),i+f=10→i≤9→u<128^i→(0<i→a+i≤s.length)→f<j→Z6e.l0 j s (a:Int) (u:Int) (i:Int)=some (fin a (gn f i u (s.drop (a+i))))
 | f,i,u,0,_,_,_,_,h=>absurd h (Yk f)
 | 0,i,u,j+1,hf,h9,hu,hz,_=>by omega
 | f+1,i,u,j+1,hf,hi9,hu,hz,hj=>by
  unfold Z6e.l0;rw [w64 (n:=(s.length:Int)-(i:Int)) (by omega) (by omega)];rcases Zs9 s (a+i) with ⟨hd,hlen⟩ | ⟨hlt,hd⟩
  ·rw [Xa (by omega:(s.length:Int)-(i:Int)≤(a:Int)),hd]
   rfl
  ·rw [Xb (by omega:¬((s.length:Int)-(i:Int)≤(a:Int))),w64 (n:=(a:Int)+(i:Int)) (by omega) (by omega),show ((a:Int)+(i:Int))=((a+i:Nat):Int) by omega]
   simp only [Xf];rw [Zi hlt,hd];simp only [Yd,gn];have hb:=Zro s[a+i];have ih:=fun u'=>ign s hs a ha f (i+1) u' j
   generalize s[a+i].toNat=b at hb ⊢;rw [Zfi]
   by_cases h9:i=9∧1<b
   ·rw [Xa (by omega:(i:Int)=9),Xa (by omega:(1:Int)<(b:Int)),Xc h9]
    rfl
   ·rw [Xd h9,show (decide ((i:Int)=9)&&decide ((1:Int)<(b:Int)))=false by
     by_cases h:i=9
     ·rw [Xb (by omega:¬((1:Int)<(b:Int))),Ys]
     ·rw [Xb (by omega:¬((i:Int)=9))];rfl]
    have hb9:i=9→b≤1:=fun h=>by
     rcases Y7 1 b with h1 | h1
     ·exact absurd ⟨h,h1⟩ h9
     ·exact h1
    have hsl:=Z26 (b:=b) (show i≤9 by omega) hu hb9
    have hv:intBits .or .u64 (u:Int) (shl .u64 (Yb .u64 (intBits .and .u8 (b:Int) 127)) (Yb .i64 (7*(i:Int))))=((u+b%128*128^i:Nat):Int):=by
     rw [Zhgb b hb,Zih,show ((b%128:Nat):Int)%18446744073709551616=((b%128:Nat):Int) by omega,w64 (by omega) (by omega),show (7*(i:Int))=((7*i:Nat):Int) by omega,Zteb (by omega) hb9,Z1gb _ _ (by have:=Zrcb (show i≤9 by omega);omega) (Zefb (by omega) hb9),Zpmb hu]
    have hn:Zwb (Yb .i64 (7*(i:Int)))=some ():=Z3c (by rw [w64 (by omega) (by omega)];omega);simp only [Xf];rw [hn];simp only [Yd];rw [hv]
    by_cases h128:128≤b
    ·have hi8:i≤8:=by
      by_cases h:i=9
      ·have:=hb9 h;omega
      ·omega
     rw [Xa (by omega:((127:Int)<(b:Int))),Xc h128,Xe,Zn (by omega),show a+i+1=a+(i+1) by omega];exact ih _ (by omega) (by omega) (Zb1 hi8 hu) (fun _=>by omega) (by omega)
    ·rw [Xb (by omega:¬((127:Int)<(b:Int))),Xd h128,Xf,Zfi]
     by_cases h0:b=0∧0<i
     ·rw [Xa (by omega:(b:Int)=0),Xa (by omega:(0:Int)<(i:Int)),Xc h0]
      rfl
     ·rw [Xd h0,show (decide ((b:Int)=0)&&decide ((0:Int)<(i:Int)))=false by
       by_cases h:b=0
       ·rw [Xb (by omega:¬((0:Int)<(i:Int))),Ys]
       ·rw [Xb (by omega:¬((b:Int)=0))];rfl]
      generalize u+b%128*128^i=v at hsl;have e2:shr .u64 (v:Int) 1=((v/2:Nat):Int):=Zpi .u64 v 1 (by decide);rw [Xf,Z3c (by omega:(0:Int)≤1)];simp only [Yd];rw [Zn (by omega),e2,Zugb v hsl,w64 (n:=((v/2:Nat):Int)) (by omega) (by omega),Zfi];unfold fin unz
      by_cases hp:v%2=1
      ·rw [Xa (by omega:((v%2:Nat):Int)=1),Xc hp,Zimb _ (by omega)]
       rfl
      ·rw [Xb (by omega:¬(((v%2:Nat):Int)=1)),Xd hp]
       rfl
section
variable (s:Str) (a:Nat) (ha:a<9223372036854775000)
include ha
theorem Z2y (hs:s.length≤140737488351232):Ze fun k=>Z6e k s (a:Int)=some (Zdd s a):=by
 refine Ze.ge 11 fun k hk=>?_
 have h:=ign s hs a ha 10 0 0 k rfl (by omega) (by omega) (fun h=>absurd h (by omega)) (by omega)
 have h:Z6e.l0 k s (a:Int) 0 0=some (Zdd s a):=h
 unfold Z6e
 rw [Xb (by omega:¬((a:Int)<0)),h]
 rfl
theorem Zku (hs:s.length≤8000):Ze fun k=>Zld k s (a:Int)=some (Zdd s a):=by
 refine Ze.ge 11 fun k hk=>?_
 have h:=sgn s (by omega) a ha 10 0 0 k rfl (by omega) (by omega) (fun h=>absurd h (by omega)) (by omega)
 have h:Zld.l0 k s (a:Int) 0 0 0 0 0=some (.inr (Zdd s a)):=h
 unfold Zld
 rw [Xb (by omega:¬(8000<(s.length:Int))),Xb (by omega:¬((a:Int)<0)),h]
 rfl
theorem Z73 (hs:s.length≤140737488351232):Ze fun k=>Zgc k (s,((a:Int),false))=some (Zib s a):=by
 refine (Z2y s a ha hs).mono fun k h=>?_
 unfold Zgc Zib
 rw [h]
 rcases Z0k s a with ⟨n,a',e,g⟩ | ⟨c,hc,e⟩
 ·rw [e];rfl
 ·rw [e,Xd hc]
  simp only [Yd];rw [show (c != 0)=true by simpa using hc];rfl
theorem Zmu (hs:s.length≤8000):Ze fun k=>Zdc k (s,((a:Int),false))=some (Zib s a):=by
 refine (Zku s a ha hs).mono fun k h=>?_
 unfold Zdc Zib
 rw [h]
 rcases Z0k s a with ⟨n,a',e,g⟩ | ⟨c,hc,e⟩
 ·rw [e];rfl
 ·rw [e,Xd hc]
  simp only [Yd];rw [show (c != 0)=true by simpa using hc];rfl
theorem Zj6 (hs:s.length≤8000):Ze fun k=>Zdc k (s,((a:Int),true))=some (0,s,(a:Int),true):=by
 refine (Zku s a ha hs).mono fun k h=>?_
 unfold Zdc
 rw [h]
 rfl
theorem Zfkb (hs:s.length≤140737488351232):∃(n:Int) (a':Nat),(Ze fun k=>Zgc k (s,((a:Int),true))=some (n,s,(a':Int),true))∧a'≤max a s.length:=by
 rcases Z0k s a with ⟨n,a',e,g⟩ | ⟨c,hc,e⟩
 ·refine ⟨n,a',(Z2y s a ha hs).mono fun k h=>?_,?_⟩
  ·unfold Zgc
   rw [h,e];rfl
  ·have:=g.le;omega
 ·refine ⟨0,a,(Z2y s a ha hs).mono fun k h=>?_,by omega⟩
  unfold Zgc;rw [h,e];simp only [Yd];rw [show (c != 0)=true by simpa using hc];rfl
end
theorem Zy0 (s:Str) (h:s.length≤8000):Ze fun k=>Zzi k s=some (Z3b s):=by
 refine (Zyi (s.length:Int) ⟨by omega,by omega⟩).mono fun k hk=>?_
 have:=Zhc (s.length:Int)
 unfold Zzi
 rw [Xb (by omega:¬(8000<(s.length:Int))),hk]
 simp only [Xf,Yd]
 rw [Zvc (by omega)]
 rfl
section
variable (s:Str) (a:Nat) (ha:a<9223372036854775000)
include ha
theorem Z4w (hs:s.length≤8000):Ze fun k=>Zzl k s (a:Int)=some (Znh s a):=by
 refine (Zku s a ha hs).mono fun k h=>?_
 unfold Zzl Znh
 rw [h]
 rcases Z0k s a with ⟨n,a',e,g⟩ | ⟨c,hc,e⟩
 ·rw [e]
  simp only [if_true,Yd];have hle:=g.le;rw [show ((0:Int) != 0)=false from rfl,Xf]
  by_cases hn:0≤n∧n≤8000
  ·rw [Xb (by omega:¬(n<0)),Xb (by omega:¬(8000<n)),Xc hn,w64 (n:=(s.length:Int)-n) (by omega) (by omega),w64 (n:=(a':Int)+n) (by omega) (by omega)]
   by_cases hq:n > (s.length:Int)-(a':Int)
   ·rw [Xa (by omega:(s.length:Int)-n<(a':Int)),Xc hq]
    rfl
   ·rw [Xb (by omega:¬((s.length:Int)-n<(a':Int))),Xd hq]
    obtain ⟨m,rfl⟩:∃m:Nat,n=(m:Int):=⟨n.toNat,by omega⟩;rw [show ((a':Int)+(m:Int))=((a'+m:Nat):Int) by omega];have hc:=Znf (l:=s) (i:=a') (j:=a'+m) (by omega) (by omega);simp only [Bool.or_false,Xf];rw [hc];rfl
  ·rw [Xd hn,show (decide (n<0)||decide (8000<n))=true by
    by_cases h0:n<0
    ·rw [Xa h0];rfl
    ·rw [Xa (by omega:8000<n),Bool.or_true]]
   rfl
 ·rw [e]
  simp only [Yd];rw [Xd hc,show (c != 0)=true by simpa using hc];rfl
theorem Z43 (hs:s.length≤140737488351232):Ze fun k=>Zcp k s (a:Int)=some (Znh s a):=by
 refine (Z2y s a ha hs).mono fun k h=>?_
 unfold Zcp Znh
 rw [h]
 rcases Z0k s a with ⟨n,a',e,g⟩ | ⟨c,hc,e⟩
 ·rw [e]
  simp only [if_true,Yd];have hle:=g.le;rw [show ((0:Int) != 0)=false from rfl,Xf];unfold Zhb;simp only [Yd]
  by_cases hn:0≤n∧n≤8000
  ·rw [Xa (by omega:0≤n),Xa (by omega:n≤8000),Xc hn,w64 (n:=(s.length:Int)-(a':Int)) (by omega) (by omega),w64 (n:=(a':Int)+n) (by omega) (by omega)]
   by_cases hq:n > (s.length:Int)-(a':Int)
   ·rw [Xa (by omega:(s.length:Int)-(a':Int)<n),Xc hq]
    rfl
   ·rw [Xb (by omega:¬((s.length:Int)-(a':Int)<n)),Xd hq]
    obtain ⟨m,rfl⟩:∃m:Nat,n=(m:Int):=⟨n.toNat,by omega⟩;rw [show ((a':Int)+(m:Int))=((a'+m:Nat):Int) by omega];have hc:=Znf (l:=s) (i:=a') (j:=a'+m) (by omega) (by omega);simp only [Bool.and_true,Bool.not_true,Xf];rw [hc];rfl
  ·rw [Xd hn,show (decide (0≤n)&&decide (n≤8000))=false by
    by_cases h0:0≤n
    ·rw [Xb (by omega:¬(n≤8000)),Ys]
    ·rw [Xb h0];rfl]
   rfl
 ·rw [e]
  simp only [Yd];rw [Xd hc,show (c != 0)=true by simpa using hc];rfl
theorem Z3ab (hs:s.length≤140737488351232):Ze fun k=>Zyg k (s,((a:Int),false))=some (Z4f s a):=by
 refine (Z43 s a ha hs).mono fun k h=>?_
 unfold Zyg Z4f
 rw [h]
 rcases Z2q s a with ⟨n,a',e,g⟩ | ⟨c,hc,e⟩
 ·rw [e];rfl
 ·rw [e,Xd hc]
  simp only [Yd];rw [show (c != 0)=true by simpa using hc];rfl
theorem Zjeb (hs:s.length≤8000):Ze fun k=>Zwh k (s,((a:Int),false))=some (Z4f s a):=by
 refine (Z4w s a ha hs).mono fun k h=>?_
 unfold Zwh Z4f
 rw [h]
 rcases Z2q s a with ⟨n,a',e,g⟩ | ⟨c,hc,e⟩
 ·rw [e];rfl
 ·rw [e,Xd hc]
  simp only [Yd];rw [show (c != 0)=true by simpa using hc];rfl
theorem Z10 (hs:s.length≤8000):Ze fun k=>Zwh k (s,((a:Int),true))=some ([],s,(a:Int),true):=by
 refine (Z4w s a ha hs).mono fun k h=>?_
 unfold Zwh
 rw [h]
 rfl
theorem Z4ab (hs:s.length≤140737488351232):∃(t:Str) (a':Nat),(Ze fun k=>Zyg k (s,((a:Int),true))=some (t,s,(a':Int),true))∧a'≤max a s.length:=by
 rcases Z2q s a with ⟨n,a',e,g⟩ | ⟨c,hc,e⟩
 ·refine ⟨n,a',(Z43 s a ha hs).mono fun k h=>?_,?_⟩
  ·unfold Zyg
   rw [h,e];rfl
  ·have:=g.le;omega
 ·refine ⟨[],a,(Z43 s a ha hs).mono fun k h=>?_,by omega⟩
  unfold Zyg;rw [h,e];simp only [Yd];rw [show (c != 0)=true by simpa using hc];rfl
end
def Zjj (s:Str):Option (Int×Int×Int×Str×Nat):=if (Zib s 0).2.2.2=true then none else if (Zib s (Zib s 0).2.2.1.toNat).2.2.2=true then none else if (Zib s (Zib s (Zib s 0).2.2.1.toNat).2.2.1.toNat).2.2.2=true then none else if (Z4f s (Zib s (Zib s (Zib s 0).2.2.1.toNat).2.2.1.toNat).2.2.1.toNat).2.2.2=true then none else some ((Zib s 0).1,(Zib s (Zib s 0).2.2.1.toNat).1,(Zib s (Zib s (Zib s 0).2.2.1.toNat).2.2.1.toNat).1,(Z4f s (Zib s (Zib s (Zib s 0).2.2.1.toNat).2.2.1.toNat).2.2.1.toNat).1,(Z4f s (Zib s (Zib s (Zib s 0).2.2.1.toNat).2.2.1.toNat).2.2.1.toNat).2.2.1.toNat)
theorem Z03 {s:Str} {x y z:Int} {t:Str} {a b c d:Nat} (g1:Got s 0 x a) (g2:Got s a y b) (g3:Got s b z c) (g4:GotT s c t d):Zm x++Zm y++Zm z++Z3b t=s ↔ d=s.length:=by
 have e1:=g1.eq
 have e2:=g2.eq
 have e3:=g3.eq
 have e4:=g4.eq
 rw [Y4] at e1
 constructor
 ·intro h
  have h1:=congrArg Yga h;rw [Yj,Yj,Yj] at h1;have:=g1.at';have:=g2.at';have:=g3.at';have:=g4.at';omega
 ·rintro rfl
  rw [List.drop_of_length_le (l:=s) (i:=s.length) (Yv _),List.append_nil] at e4;rw [← e4,Yn,← e3,Yn,← e2,← e1]
theorem Zycb {s:Str} {x y z:Int} {t:Str} {d:Nat} (h:Zjj s=some (x,y,z,t,d)):∃a b c,Got s 0 x a∧Got s a y b∧Got s b z c∧GotT s c t d:=by
 unfold Zjj at h
 rcases Z2t s 0 with ⟨x',a,e1,g1⟩ | e1
 ·rw [e1] at h
  simp only [Ye,Yx,if_false] at h;rcases Z2t s a with ⟨y',b,e2,g2⟩ | e2
  ·rw [e2] at h
   simp only [Ye,Yx,if_false] at h;rcases Z2t s b with ⟨z',c,e3,g3⟩ | e3
   ·rw [e3] at h
    simp only [Ye,Yx,if_false] at h;rcases Zffb s c with ⟨t',d',e4,g4⟩ | e4
    ·rw [e4] at h
     simp only [Ye,Yx,if_false,Option.some.injEq,Prod.mk.injEq] at h;obtain ⟨rfl,rfl,rfl,rfl,rfl⟩:=h;exact ⟨a,b,c,g1,g2,g3,g4⟩
    ·rw [e4] at h;simp at h
   ·rw [e3] at h;simp at h
  ·rw [e2] at h;simp at h
 ·rw [e1] at h;simp at h
def Z1fb (k:Nat) (s:Str):Prop:=∃v3 v4 v5:Int×Str×Int×Bool,∃v6:Str×Str×Int×Bool,Zdc k (s,(0,false))=some v3∧Zdc k v3.2=some v4∧Zdc k v4.2=some v5∧Zwh k v5.2=some v6 ∧ ((∃x y z t d,Zjj s=some (x,y,z,t,d)∧v3.1=x∧v4.1=y∧v5.1=z∧v6=(t,s,((d:Nat):Int),false))∨(Zjj s=none∧v6.2.2.2=true))
theorem Zcdb (s:Str) (hs:s.length≤8000):Ze fun k=>Z1fb k s:=by
 have f0:=Zmu s 0 (by omega) hs
 rcases Z2t s 0 with ⟨x,a,e1,g1⟩ | e1
 ·have l1:=g1.le
  have f1:=Zmu s a (by omega) hs;rcases Z2t s a with ⟨y,b,e2,g2⟩ | e2
  ·have l2:=g2.le
   have f2:=Zmu s b (by omega) hs;rcases Z2t s b with ⟨z,c,e3,g3⟩ | e3
   ·have l3:=g3.le
    have f3:=Zjeb s c (by omega) hs;refine (((f0.and f1).and f2).and f3).mono fun k ⟨⟨⟨h0,h1⟩,h2⟩,h3⟩=>⟨Zib s 0,Zib s a,Zib s b,Z4f s c,h0,?_,?_,?_,?_⟩
    ·rw [e1];exact h1
    ·rw [e2];exact h2
    ·rw [e3];exact h3
    ·rcases Zffb s c with ⟨t,d,e4,g4⟩ | e4
     ·refine .inl ⟨x,y,z,t,d,?_,by rw [e1],by rw [e2],by rw [e3],e4⟩
      unfold Zjj;simp [e1,e2,e3,e4]
     ·refine .inr ⟨?_,by rw [e4]⟩
      unfold Zjj;simp [e1,e2,e3,e4]
   ·have f3:=Z10 s b (by omega) hs
    refine (((f0.and f1).and f2).and f3).mono fun k ⟨⟨⟨h0,h1⟩,h2⟩,h3⟩=>⟨Zib s 0,Zib s a,Zib s b,([],s,(b:Int),true),h0,?_,?_,?_,.inr ⟨?_,?_⟩⟩
    ·rw [e1];exact h1
    ·rw [e2];exact h2
    ·rw [e3];exact h3
    ·unfold Zjj
     simp [e1,e2,e3]
    ·rfl
  ·have f2:=Zj6 s a (by omega) hs
   have f3:=Z10 s a (by omega) hs;refine (((f0.and f1).and f2).and f3).mono fun k ⟨⟨⟨h0,h1⟩,h2⟩,h3⟩=>⟨Zib s 0,Zib s a,(0,s,(a:Int),true),([],s,(a:Int),true),h0,?_,?_,h3,.inr ⟨?_,rfl⟩⟩
   ·rw [e1];exact h1
   ·rw [e2];exact h2
   ·unfold Zjj
    simp [e1,e2]
 ·have f1:=Zj6 s 0 (by omega) hs
  have f3:=Z10 s 0 (by omega) hs;refine ((f0.and f1).and f3).mono fun k ⟨⟨h0,h1⟩,h3⟩=>⟨Zib s 0,(0,s,((0:Nat):Int),true),(0,s,((0:Nat):Int),true),([],s,((0:Nat):Int),true),h0,?_,h1,h3,.inr ⟨?_,rfl⟩⟩
  ·rw [e1];exact h1
  ·unfold Zjj
   simp [e1]
end Go.Proofs.Qz
