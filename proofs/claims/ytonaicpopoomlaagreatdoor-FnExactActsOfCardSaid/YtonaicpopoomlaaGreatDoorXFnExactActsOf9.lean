/- What the law FnExactActsOf needs, part 10 of 14: the Lean functions of the Go functions that it reaches, with the proofs that the calls come to what they say, and plain facts about them. Conditions: those that each theorem states. Written by a session and by its programs (after the kit's printer). -/
import Derived.Laws.BitsLemmas
import Derived.Test.YtonaicpopoomlaaGreatDoorXFnExactActsOf5
import Derived.Test.YtonaicpopoomlaaGreatDoorXFnExactActsOf8
open Option renaming bind → Ya, bind_some → Yc
open Go.IntKind renaming wrap → Yb, bits → Ys, signed → Yy
open Int renaming toNat_natCast → Yd, toNat → Yi, tmod → Yx, tmod_eq_emod_of_nonneg → Y1, tdiv_eq_ediv_of_nonneg → Yda
open BitVec renaming ofInt → Ye, ofInt_natCast → Yg, toNat_ofNat → Yh, toNat_and → Y9
open Nat renaming mod_eq_of_lt → Yf, not_lt_zero → Yl, pow_succ → Yp, zero_add → Yq, le_refl → Yu, mul_comm → Yv, xor_assoc → Y0, add_assoc → Y5, lt_or_ge → Y6, mul_le_mul_right → Y7, xor_comm → Y8, add_comm → Yla, and_one_is_mod → Yma, div_lt_of_lt_mul → Yna, min_eq_left → Yoa, mul_assoc → Ypa, pow_le_pow_right → Yqa, pow_zero → Yra, sub_self → Ysa, xor_lt_two_pow → Yta, xor_zero → Yua
open List renaming length_append → Yj, set → Yk, append_assoc → Yn, drop_eq_getElem_cons → Yo, replicate → Yt, length_cons → Yz, drop_eq_nil_of_le → Y2, drop_length → Y3, drop_zero → Y4, drop_drop → Yea, getElem_mem → Yfa, length → Yga, length_drop → Yha, take_add_one → Yia, take_append_drop → Yja, take_length → Yka
open Bool renaming and_eq_true → Ym, and_false → Yr, false_eq_true → Yw, eq_false_iff → Yaa, eq_iff_iff → Yba, not_true → Yca
namespace Go.Proofs.Qz
open Go Go.RowKit
set_option linter.unusedVariables false
set_option linter.defProp false
def Z1m (k:Nat) (a1:G27) (a2:G59):Option (List Z7c):=
 Ya (Z4c k a1 a2) fun v3=>
 Ya (Z9c k v3 a1.1) fun v4=>
 bif v4 != 0 then
  some ([])
 else
 Ya (Zkb k v3) fun v5=>
 some v5
def Z1m.con (k:Nat):Con:=Sig.con { ps:=[.val true T27 (ros T27),.val true T59 (ros T59)],rs:=[.val false [.own 107 Z2b]],ntmps:=16 } (fun x=>Z1m k x.1 x.2)
theorem Z1m.ok (k:Nat):Zf Tryz.prog 76 (Z1m.con k):=fA (cXr true false (cC (Z4c.ok k) (cC (Z9c.ok k) (cC (Zkb.ok k) cN)))) Tryz.func76
def Z9d.l0:Nat→Int→List G29→Int→Int→Option (Int)
 | 0,_,_,_,_=>none
 | j+1,a1,a2,a3,a4=>
  bif decide (a4<a3) then
   Ya (at? a2 a4) fun v5=>
   let e6:=Yb .i64 (a4+1)
   bif v5.1==5 then
    Z9d.l0 j e6 a2 a3 e6
   else
   Z9d.l0 j a1 a2 a3 e6
  else
  some a1
def Z9d (k:Nat) (a1:List G29):Option (Int):=
 Ya (Z9d.l0 k 0 a1 ((a1.length):Int) 0) fun y2=>
 some y2
def Z9d.con (k:Nat):Con:=Sig.con { ps:=[.val false (.sl T29) (ros (.sl T29))],rs:=[.val false [.v (.int .i64)]],ntmps:=20 } (fun x=>Z9d k x)
def Z9d.cok (k:Nat):=cX cN
def Z9d.l0.s (k:Nat):Summ:=lp 20 { tmps:=[(3,.one (.v (.int .i64))),(6,.one (.bor T29)),(7,.one (.v (.int .i64))),(8,.one (.v (.int .i64)))],slots:=[],nb:=0 } [(.exit 0,{ tmps:=[(3,.one (.v (.int .i64)))],slots:=[],nb:=0 })] (fun j x=>Z9d.l0 j x.1 x.2.1 x.2.2.1 x.2.2.2) k
def Z9d.l0.ok (k:Nat):=(lA (Z9d.cok k):Zj Tryz.prog _ (.loop (cO (cO (cR (cL (cR (cR (cB Tryz.f78)))))))) (Z9d.l0.s k))
theorem Z9d.ok (k:Nat):Zf Tryz.prog 78 (Z9d.con k):=fP (.two .auto (.two .auto (.two (.two .auto (.one (.sum (Z9d.l0.s k)))) .auto))) (Z9d.cok k) Tryz.func78 (sC (Z9d.l0.ok k) sN)
def Zno (k:Nat) (a1:Str) (a2:Int):Option (Bool×Int×Str):=
 Ya (Zak k a1) fun v3=>
 Ya (Zec k (v3.1,(0,false))) fun v4=>
 Ya (Zec k v4.2) fun v5=>
 Ya (Zig k v5.2) fun v6=>
 bif (((v3.2 != 0)||v6.2.2.2)||(v6.2.2.1 != ((v3.1.length):Int)))||(v4.1 != a2) then
  some (true,0,[])
 else
 Ya (Z4h a2) fun v7=>
 bif !v7 then
  some (true,0,[])
 else
 Ya (Zeb v5.1 0 39) fun v8=>
 bif (!v8)||(((v6.1.length):Int) != 8) then
  some (true,0,[])
 else
 some (false,v5.1,v6.1)
def Zno.con (k:Nat):Con:=Sig.con { ps:=[.val false .str (ros .str),.val false (.int .i64) (ros (.int .i64))],rs:=[.val true [.v .bool,.v (.int .i64),.v .str]],ntmps:=66 } (fun x=>Zno k x.1 x.2)
theorem Zno.ok (k:Nat):Zf Tryz.prog 157 (Zno.con k):=fA (cX (cC (Zeb.ok k) (cC (Z4h.ok k) (cC (Zec.ok k) (cC (Zig.ok k) (cC (Zak.ok k) cN)))))) Tryz.func157
def Zkd.l0 (k:Nat):Nat→List Int→Int→Int→Int→List Str→List Zjb→List G89→Option ((Int×List Str×List Zjb×List G89))
 | 0,_,_,_,_,_,_,_=>none
 | j+1,a1,a2,a3,a4,a5,a6,a7=>
  bif decide (a3<a2) then
   Ya (at? a1 a3) fun v8=>
   let e9:=(a4,(a5,a6))
   Ya (Zui k e9 v8) fun v10=>
   let e11:=Yb .i64 (a3+1)
   bif !(v10==[]) then
    Ya (Z9g e9 v8) fun v12=>
    Ya (Zu 32 a7 ([(false,(v12,[]))])) fun v13=>
    Zkd.l0 k j a1 a2 e11 a4 a5 a6 v13
   else
   Zkd.l0 k j a1 a2 e11 a4 a5 a6 a7
  else
  some (a4,a5,a6,a7)
def Zkd (k:Nat) (a1:G27) (a2:G59):Option (List G89):=
 let e3:=(true,(0,[]))
 bif a2.1==2 then
  Ya (Z4c k a1 a2) fun v4=>
  Ya (Z9d k v4) fun v5=>
  Ya (Z8b a2.2.2.2.2.2.2.2 (Yb .i64 (a2.2.2.2.1+v5)) ((a2.2.2.2.2.2.2.2.length):Int)) fun v6=>
  Ya (Zkd.l0 k k v6 ((v6.length):Int) 0 a1.1 a1.2.1 a1.2.2 []) fun y7=>
  bif decide (0<((y7.2.2.2.length):Int)) then
   Ya (Zu 32 y7.2.2.2 [e3]) fun v8=>
   some v8
  else
  some y7.2.2.2
 else
 bif a2.1==3 then
  Ya (Z8d k a1 (4,(2,a2.2.2))) fun v9=>
  some v9
 else
 bif a2.1==4 then
  bif a2.2.1==0 then
   Ya (Zxi a2) fun v10=>
   Ya (Z8d k a1 v10) fun v11=>
   some v11
  else
  Ya (Z8d k a1 (a2.1,((Yb .i64 (a2.2.1-1)),a2.2.2))) fun v12=>
  some v12
 else
 bif a2.1==5 then
  Ya (Zyf k a1.2 2) fun v13=>
  Ya (Zno k v13 a2.2.2.2.2.1) fun v14=>
  bif v14.1||(a2.2.2.2.2.1==40) then
   some ([])
  else
  Ya (Zwl a1.2 v14.2.1) fun v15=>
  bif !v15 then
   some ([])
  else
  Ya (Z8d k a1 (a2.1,(a2.2.1,(a2.2.2.1,(a2.2.2.2.1,((Yb .i64 (a2.2.2.2.2.1+1)),a2.2.2.2.2.2)))))) fun v16=>
  Ya (Zu 32 [v14,e3] v16) fun v17=>
  some v17
 else
 some ([])
def Zkd.con (k:Nat):Con:=Sig.conR { ps:=[.val true T27 (Zwg T27),.val true T59 (ros T59)],rs:=[.val false [.own 89 T89]],ntmps:=105 } (fun x=>Zkd k x.1 x.2)
def Zkd.cok (k:Nat):=cX (cC (Z4c.ok k) (cC (Z8d.ok k) (cC (Zxi.ok k) (cC (Z9d.ok k) (cC (Zyf.ok k) (cC (Zui.ok k) (cC (Z9g.ok k) (cC (Zno.ok k) (cC (Zwl.ok k) cN)))))))))
def Zkd.l0.s (k:Nat):Summ:=lp 105 { tmps:=[(2,.one (.ptr 0 0)),(5,.one (.own 3)),(22,.one (.bor (.int .i64))),(23,.one (.v (.int .i64))),(24,.one (.v (.int .i64)))],slots:=[(0,.box 43 [.v (.int .i64),.v (.sl .str),.v (.sl Z2)]),(3,.arr false 89 T89)],nb:=4 } [(.exit 1,{ tmps:=[(5,.one (.own 4))],slots:=[(0,.box 43 [.v (.int .i64),.v (.sl .str),.v (.sl Z2)]),(4,.arr false 89 T89)],nb:=5 })] (fun j x=>Zkd.l0 k j x.1 x.2.1 x.2.2.1 x.2.2.2.1 x.2.2.2.2.1 x.2.2.2.2.2.1 x.2.2.2.2.2.2) k
def Zkd.l0.ok (k:Nat):=(lA (Zkd.cok k):Zj Tryz.prog _ (.loop (cO (cO (cR (cL (cR (cL (cR (cO (cR (cL (cR (cB Tryz.f83))))))))))))) (Zkd.l0.s k))
theorem Zkd.ok (k:Nat):Zf Tryz.prog 83 (Zkd.con k):=Zi7 (fP (.two .auto (.two (.two .auto (.one (.two .auto (.two (.two .auto (.two (.two .auto (.one (.sum (Zkd.l0.s k)))) .auto)) .auto)))) .auto)) (Zkd.cok k) Tryz.func83 (sC (Zkd.l0.ok k) sN))
def Zwc.j0 (k:Nat) (a1:Int) (a2:List Str) (a3:List Zjb) (a4:Int) (a5:Int) (a6:Int) (a7:Int) (a8:Int) (a9:Int) (a10:Str) (a11:List Int) (a12:List Int):Option ((Int×Int×Int×Int×Int×Int×Str×List Int×List Int)):=
 bif a5==5 then
  Ya (Z1m k (a1,(a2,a3)) (a5,(a6,(a7,(a8,(a9,(a10,(a11,a12)))))))) fun v13=>
  Ya (Zvk v13) fun v14=>
  some (Yb .i64 (v14-a9),a5,a6,a7,a8,a9,a10,a11,a12)
 else
 some (a4,a5,a6,a7,a8,a9,a10,a11,a12)
def Zwc (k:Nat) (a1:G27) (a2:G31):Option (List G89×Str×List Int×Int):=
 Ya (Zah k a1) fun v3=>
 Ya (Zxc k a1.2) fun v4=>
 bif v4.1==1000000 then
  some ([],[],[],9)
 else
 let e5:=(v3.2.2.1,(v3.2.2.2.1,(v3.2.2.2.2.1,(v3.2.2.2.2.2.1,(v3.2.2.2.2.2.2.1,v3.2.2.2.2.2.2.2.1)))))
 let e6:=(v3.1,(v3.2.1,e5))
 Ya (Z4c k a1 e6) fun v7=>
 bif a2.1==1 then
  Ya (Zje k a1 e6 a2) fun v8=>
  some (v8.1,v8.2.1,v8.2.2.1,v8.2.2.2)
 else
 bif a2.1==2 then
  Ya (Z9n k a1 e6 v7 a2.2.2.2.2) fun v9=>
  some (v9.1,v9.2.1,v9.2.2.1,v9.2.2.2)
 else
 bif a2.1==3 then
  Ya (Z8n k a1 e6 v7) fun v10=>
  some (v10.1,v10.2.1,v10.2.2.1,v10.2.2.2)
 else
 bif a2.1==4 then
  bif (v3.1==1)||(v3.1==5) then
   some ([],[],[],10)
  else
  Ya (Zxi e6) fun v11=>
  Ya (Z8d k a1 v11) fun v12=>
  some (v12,[],[],0)
 else
 bif a2.1==5 then
  bif v3.1 != 4 then
   some ([],[],[],10)
  else
  Ya (Z8d k a1 (5,(0,e5))) fun v13=>
  Ya (Zu 32 ([(false,(2,[])),(true,(0,[]))]) v13) fun v14=>
  some (v14,[],[],0)
 else
 bif a2.1==6 then
  Ya (Zsc k a1 e6 v7) fun v15=>
  some (v15.1,v15.2.1,v15.2.2.1,v15.2.2.2)
 else
 bif a2.1==7 then
  bif decide (a1.1≤a2.2.1) then
   some ([],[],[],8)
  else
  Ya (Zke k a1) fun v16=>
  let e17:=at? v16 a2.2.1
  Ya (e17) fun v18=>
  Ya (e17) fun v19=>
  some ([],v19,[],0)
 else
 bif a2.1==8 then
  Ya (Zwc.j0 k a1.1 a1.2.1 a1.2.2 0 v3.1 v3.2.1 v3.2.2.1 v3.2.2.2.1 v3.2.2.2.2.1 v3.2.2.2.2.2.1 v3.2.2.2.2.2.2.1 v3.2.2.2.2.2.2.2.1) fun y20=>
  Ya (Z9j v7) fun v21=>
  Ya (Z9d k v7) fun v22=>
  Ya (Znj y20.2.2.2.2.2.2.2.1) fun v23=>
  Ya (Znj y20.2.2.2.2.2.2.2.2) fun v24=>
  some ([],[],[y20.2.1,y20.2.2.1,v21,v22,y20.1,(Yb .i64 ((Yb .i64 (24-v23))-v24))],0)
 else
 bif a2.1==9 then
  Ya (Zyb k v3.2.2.2.2.2.2.1 v3.2.2.2.2.2.2.2.1 a2.2.1) fun v25=>
  bif !v25.2 then
   some ([],[],[],11)
  else
  Ya (Zic k v3.2.2.2.2.2.2.1) fun v26=>
  Ya (Zic k v25.1) fun v27=>
  Ya (Zdd k (intBits .or .i64 v26 v27)) fun v28=>
  Ya (Z8d k a1 (v3.1,(v3.2.1,(v3.2.2.1,(v3.2.2.2.1,(v3.2.2.2.2.1,(v3.2.2.2.2.2.1,(v28,v3.2.2.2.2.2.2.2.1)))))))) fun v29=>
  some (v29,[],[],0)
 else
 bif a2.1==10 then
  Ya (Z8d k a1 (v3.1,(v3.2.1,(v3.2.2.1,(v3.2.2.2.1,(v3.2.2.2.2.1,(v3.2.2.2.2.2.1,([],v3.2.2.2.2.2.2.2.1)))))))) fun v30=>
  some (v30,[],[],0)
 else
 Ya (Zkd k a1 e6) fun v31=>
 some (v31,[],[],0)
def Zwc.con (k:Nat):Con:=Sig.con { ps:=[.val true T27 (ros T27),.val true T31 (ros T31)],rs:=[.val true [.own 89 T89,.v .str,.own 2 (.int .i64),.v (.int .i64)]],ntmps:=175 } (fun x=>Zwc k x.1 x.2)
def Zwc.cok (k:Nat):=cXr true false (cC (Zah.ok k) (cC (Z4c.ok k) (cC (Zvk.ok k) (cC (Zxc.ok k) (cC (Zje.ok k) (cC (Z9n.ok k) (cC (Z8n.ok k) (cC (Z8d.ok k) (cC (Zxi.ok k) (cC (Zsc.ok k) (cC (Zke.ok k) (cC (Z1m.ok k) (cC (Z9j.ok k) (cC (Z9d.ok k) (cC (Znj.ok k) (cC (Zyb.ok k) (cC (Zdd.ok k) (cC (Zic.ok k) (cC (Zkd.ok k) cN)))))))))))))))))))
def Zwc.j0.s (k:Nat):Summ:=lq 175 { tmps:=[(2,.eptr [.v (.int .i64),.bor .str,.bor Z2]),(5,.one (.ptr 4 0)),(10,.one (.v (.int .i64)))],slots:=[(4,.box 59 [.v (.int .i64),.v (.int .i64),.v (.int .i64),.v (.int .i64),.v (.int .i64),.v .str,.own 7,.own 8]),(7,.arr false 2 (.int .i64)),(8,.arr false 2 (.int .i64))],nb:=9 } [(.nrm,{ tmps:=[(10,.one (.v (.int .i64)))],slots:=[(4,.box 59 [.v (.int .i64),.v (.int .i64),.v (.int .i64),.v (.int .i64),.v (.int .i64),.v .str,.own 9,.own 10]),(9,.arr false 2 (.int .i64)),(10,.arr false 2 (.int .i64))],nb:=11 })] (fun x=>Zwc.j0 k x.1 x.2.1 x.2.2.1 x.2.2.2.1 x.2.2.2.2.1 x.2.2.2.2.2.1 x.2.2.2.2.2.2.1 x.2.2.2.2.2.2.2.1 x.2.2.2.2.2.2.2.2.1 x.2.2.2.2.2.2.2.2.2.1 x.2.2.2.2.2.2.2.2.2.2.1 x.2.2.2.2.2.2.2.2.2.2.2)
def Zwc.j0.ok (k:Nat):=(jA (Zwc.cok k):Zj Tryz.prog _ (cL (cR (cL (cR (cR (cR (cR (cR (cR (cR (cR (cR (cR (cR (cR (cR (cR (cR (cO (cR (cL (cR (cR (cR (cR (cB Tryz.f25)))))))))))))))))))))))))) (Zwc.j0.s k))
theorem Zwc.ok (k:Nat):Zf Tryz.prog 25 (Zwc.con k):=fP (.two .auto (.two .auto (.two .auto (.two .auto (.two (.two .auto (.one (.two .auto (.two .auto (.two .auto (.two .auto (.two .auto (.two .auto (.two .auto (.two .auto (.two .auto (.two .auto (.two .auto (.two .auto (.two .auto (.two .auto (.two .auto (.two (.two .auto (.two (.sum (Zwc.j0.s k)) .auto)) .auto)))))))))))))))))) .auto))))) (Zwc.cok k) Tryz.func25 (sC (Zwc.j0.ok k) sN)
def Zuk (k:Nat) (a1:G27) (a2:G31):Option (List G89×Str×List Int×Int):=
 Ya (Z2m k a1) fun v3=>
 bif !v3 then
  some ([],[],[],1)
 else
 Ya (Zgo a2) fun v4=>
 bif !v4 then
  some ([],[],[],1)
 else
 Ya (Zwc k a1 a2) fun v5=>
 some (v5.1,v5.2.1,v5.2.2.1,v5.2.2.2)
def Zuk.con (k:Nat):Con:=Sig.con { ps:=[.val true T27 (ros T27),.val true T31 (ros T31)],rs:=[.val true [.own 89 T89,.v .str,.own 2 (.int .i64),.v (.int .i64)]],ntmps:=17 } (fun x=>Zuk k x.1 x.2)
theorem Zuk.ok (k:Nat):Zf Tryz.prog 9 (Zuk.con k):=fA (cXr true false (cC (Z2m.ok k) (cC (Zgo.ok k) (cC (Zwc.ok k) cN)))) Tryz.func9
def Zxo (a1:G89) (a2:G89):Option (Bool):=
 bif !(a1.1==a2.1) then
  some false
 else
 bif a1.2.1 != a2.2.1 then
  some false
 else
 bif !(a1.2.2==a2.2.2) then
  some false
 else
 some true
def Zxo.con (k:Nat):Con:=Sig.con { ps:=[.val true T89 (ros T89),.val true T89 (ros T89)],rs:=[.val false [.v .bool]],ntmps:=20 } (fun x=>Zxo x.1 x.2)
theorem Zxo.ok (k:Nat):Zf Tryz.prog 84 (Zxo.con k):=fA (cX cN) Tryz.func84
def Zjf.l0:Nat→List G89→List G89→Int→Option (Unit ⊕ Bool)
 | 0,_,_,_=>none
 | j+1,a1,a2,a3=>
  bif decide (a3<((a1.length):Int)) then
   Ya (at? a1 a3) fun v4=>
   Ya (at? a2 a3) fun v5=>
   Ya (Zxo v4 v5) fun v6=>
   bif !v6 then
    some (.inr false)
   else
   Zjf.l0 j a1 a2 (Yb .i64 (a3+1))
  else
  some (.inl ())
def Zjf (k:Nat) (a1:List G89) (a2:List G89):Option (Bool):=
 bif ((a1.length):Int) != ((a2.length):Int) then
  some false
 else
 Ya (Zjf.l0 k a1 a2 0) fun
  | .inl y3=>
   some true
  | .inr y4=>
   some y4
def Zjf.con (k:Nat):Con:=Sig.con { ps:=[.val false (.sl T89) (ros (.sl T89)),.val false (.sl T89) (ros (.sl T89))],rs:=[.val false [.v .bool]],ntmps:=27 } (fun x=>Zjf k x.1 x.2)
def Zjf.cok (k:Nat):=cX (cC (Zxo.ok k) cN)
def Zjf.l0.s (k:Nat):Summ:=lp 27 { tmps:=[(0,.one (.bor T89)),(1,.one (.bor T89)),(5,.one (.v (.int .i64)))],slots:=[],nb:=0 } [(.exit 0,{ tmps:=[],slots:=[],nb:=0 }),(.ret,{ tmps:=[(4,.one (.v .bool))],slots:=[],nb:=0 })] (fun j x=>Zjf.l0 j x.1 x.2.1 x.2.2) k
def Zjf.l0.ok (k:Nat):=(lA (Zjf.cok k):Zj Tryz.prog _ (.loop (cO (cO (cR (cL (cR (cR (cB Tryz.f26)))))))) (Zjf.l0.s k))
theorem Zjf.ok (k:Nat):Zf Tryz.prog 26 (Zjf.con k):=fP (.two .auto (.two .auto (.two (.two .auto (.one (.sum (Zjf.l0.s k)))) .auto))) (Zjf.cok k) Tryz.func26 (sC (Zjf.l0.ok k) sN)
def Zlf.l0:Nat→List Int→List Int→Int→Option (Unit ⊕ Bool)
 | 0,_,_,_=>none
 | j+1,a1,a2,a3=>
  bif decide (a3<((a1.length):Int)) then
   Ya (at? a1 a3) fun v4=>
   Ya (at? a2 a3) fun v5=>
   bif v4 != v5 then
    some (.inr false)
   else
   Zlf.l0 j a1 a2 (Yb .i64 (a3+1))
  else
  some (.inl ())
def Zlf (k:Nat) (a1:List Int) (a2:List Int):Option (Bool):=
 bif ((a1.length):Int) != ((a2.length):Int) then
  some false
 else
 Ya (Zlf.l0 k a1 a2 0) fun
  | .inl y3=>
   some true
  | .inr y4=>
   some y4
def Zlf.con (k:Nat):Con:=Sig.con { ps:=[.val false (.sl (.int .i64)) (ros (.sl (.int .i64))),.val false (.sl (.int .i64)) (ros (.sl (.int .i64)))],rs:=[.val false [.v .bool]],ntmps:=26 } (fun x=>Zlf k x.1 x.2)
def Zlf.cok (k:Nat):=cX cN
def Zlf.l0.s (k:Nat):Summ:=lp 26 { tmps:=[(0,.one (.bor (.int .i64))),(1,.one (.bor (.int .i64))),(5,.one (.v (.int .i64)))],slots:=[],nb:=0 } [(.exit 0,{ tmps:=[],slots:=[],nb:=0 }),(.ret,{ tmps:=[(4,.one (.v .bool))],slots:=[],nb:=0 })] (fun j x=>Zlf.l0 j x.1 x.2.1 x.2.2) k
def Zlf.l0.ok (k:Nat):=(lA (Zlf.cok k):Zj Tryz.prog _ (.loop (cO (cO (cR (cL (cR (cR (cB Tryz.f27)))))))) (Zlf.l0.s k))
theorem Zlf.ok (k:Nat):Zf Tryz.prog 27 (Zlf.con k):=fP (.two .auto (.two .auto (.two (.two .auto (.one (.sum (Zlf.l0.s k)))) .auto))) (Zlf.cok k) Tryz.func27 (sC (Zlf.l0.ok k) sN)
def Z1l (k:Nat) (a1:G37) (a2:G37):Option (Bool):=
 Ya (Zjf k a1.1 a2.1) fun v3=>
 bif !v3 then
  some false
 else
 bif !(a1.2.1==a2.2.1) then
  some false
 else
 Ya (Zlf k a1.2.2.1 a2.2.2.1) fun v4=>
 bif !v4 then
  some false
 else
 bif a1.2.2.2 != a2.2.2.2 then
  some false
 else
 some true
def Z1l.con (k:Nat):Con:=Sig.con { ps:=[.val true T37 (ros T37),.val true T37 (ros T37)],rs:=[.val false [.v .bool]],ntmps:=27 } (fun x=>Z1l k x.1 x.2)
theorem Z1l.ok (k:Nat):Zf Tryz.prog 10 (Z1l.con k):=fA (cXr true false (cC (Zjf.ok k) (cC (Zlf.ok k) cN))) Tryz.func10
def Zmf.l0:Nat→List Str→List Str→Int→Option (Unit ⊕ Bool)
 | 0,_,_,_=>none
 | j+1,a1,a2,a3=>
  bif decide (a3<((a1.length):Int)) then
   Ya (at? a1 a3) fun v4=>
   Ya (at? a2 a3) fun v5=>
   bif !(v4==v5) then
    some (.inr false)
   else
   Zmf.l0 j a1 a2 (Yb .i64 (a3+1))
  else
  some (.inl ())
def Zmf (k:Nat) (a1:List Str) (a2:List Str):Option (Bool):=
 bif ((a1.length):Int) != ((a2.length):Int) then
  some false
 else
 Ya (Zmf.l0 k a1 a2 0) fun
  | .inl y3=>
   some true
  | .inr y4=>
   some y4
def Zmf.con (k:Nat):Con:=Sig.con { ps:=[.val false (.sl .str) (ros (.sl .str)),.val false (.sl .str) (ros (.sl .str))],rs:=[.val false [.v .bool]],ntmps:=26 } (fun x=>Zmf k x.1 x.2)
def Zmf.cok (k:Nat):=cX cN
def Zmf.l0.s (k:Nat):Summ:=lp 26 { tmps:=[(0,.one (.bor .str)),(1,.one (.bor .str)),(5,.one (.v (.int .i64)))],slots:=[],nb:=0 } [(.exit 0,{ tmps:=[],slots:=[],nb:=0 }),(.ret,{ tmps:=[(4,.one (.v .bool))],slots:=[],nb:=0 })] (fun j x=>Zmf.l0 j x.1 x.2.1 x.2.2) k
def Zmf.l0.ok (k:Nat):=(lA (Zmf.cok k):Zj Tryz.prog _ (.loop (cO (cO (cR (cL (cR (cR (cB Tryz.f85)))))))) (Zmf.l0.s k))
theorem Zmf.ok (k:Nat):Zf Tryz.prog 85 (Zmf.con k):=fP (.two .auto (.two .auto (.two (.two .auto (.one (.sum (Zmf.l0.s k)))) .auto))) (Zmf.cok k) Tryz.func85 (sC (Zmf.l0.ok k) sN)
def Zyo (a1:Zjb) (a2:Zjb):Option (Bool):=
 bif a1.1 != a2.1 then
  some false
 else
 bif !(a1.2==a2.2) then
  some false
 else
 some true
def Zyo.con (k:Nat):Con:=Sig.con { ps:=[.val true Z2 (ros Z2),.val true Z2 (ros Z2)],rs:=[.val false [.v .bool]],ntmps:=15 } (fun x=>Zyo x.1 x.2)
theorem Zyo.ok (k:Nat):Zf Tryz.prog 159 (Zyo.con k):=fA (cX cN) Tryz.func159
def Zkf.l0:Nat→List Zjb→List Zjb→Int→Option (Unit ⊕ Bool)
 | 0,_,_,_=>none
 | j+1,a1,a2,a3=>
  bif decide (a3<((a1.length):Int)) then
   Ya (at? a1 a3) fun v4=>
   Ya (at? a2 a3) fun v5=>
   Ya (Zyo v4 v5) fun v6=>
   bif !v6 then
    some (.inr false)
   else
   Zkf.l0 j a1 a2 (Yb .i64 (a3+1))
  else
  some (.inl ())
def Zkf (k:Nat) (a1:List Zjb) (a2:List Zjb):Option (Bool):=
 bif ((a1.length):Int) != ((a2.length):Int) then
  some false
 else
 Ya (Zkf.l0 k a1 a2 0) fun
  | .inl y3=>
   some true
  | .inr y4=>
   some y4
def Zkf.con (k:Nat):Con:=Sig.con { ps:=[.val false (.sl Z2) (ros (.sl Z2)),.val false (.sl Z2) (ros (.sl Z2))],rs:=[.val false [.v .bool]],ntmps:=27 } (fun x=>Zkf k x.1 x.2)
def Zkf.cok (k:Nat):=cX (cC (Zyo.ok k) cN)
def Zkf.l0.s (k:Nat):Summ:=lp 27 { tmps:=[(0,.one (.bor Z2)),(1,.one (.bor Z2)),(5,.one (.v (.int .i64)))],slots:=[],nb:=0 } [(.exit 0,{ tmps:=[],slots:=[],nb:=0 }),(.ret,{ tmps:=[(4,.one (.v .bool))],slots:=[],nb:=0 })] (fun j x=>Zkf.l0 j x.1 x.2.1 x.2.2) k
def Zkf.l0.ok (k:Nat):=(lA (Zkf.cok k):Zj Tryz.prog _ (.loop (cO (cO (cR (cL (cR (cR (cB Tryz.f86)))))))) (Zkf.l0.s k))
theorem Zkf.ok (k:Nat):Zf Tryz.prog 86 (Zkf.con k):=fP (.two .auto (.two .auto (.two (.two .auto (.one (.sum (Zkf.l0.s k)))) .auto))) (Zkf.cok k) Tryz.func86 (sC (Zkf.l0.ok k) sN)
def Zwq (k:Nat) (a1:G25) (a2:G25):Option (Bool):=
 Ya (Zmf k a1.1 a2.1) fun v3=>
 bif !v3 then
  some false
 else
 Ya (Zkf k a1.2 a2.2) fun v4=>
 bif !v4 then
  some false
 else
 some true
def Zwq.con (k:Nat):Con:=Sig.con { ps:=[.val true T25 (ros T25),.val true T25 (ros T25)],rs:=[.val false [.v .bool]],ntmps:=17 } (fun x=>Zwq k x.1 x.2)
theorem Zwq.ok (k:Nat):Zf Tryz.prog 28 (Zwq.con k):=fA (cXr true false (cC (Zmf.ok k) (cC (Zkf.ok k) cN))) Tryz.func28
def Zzo (k:Nat) (a1:G27) (a2:G27):Option (Bool):=
 bif a1.1 != a2.1 then
  some false
 else
 Ya (Zwq k a1.2 a2.2) fun v3=>
 bif !v3 then
  some false
 else
 some true
def Zzo.con (k:Nat):Con:=Sig.con { ps:=[.val true T27 (ros T27),.val true T27 (ros T27)],rs:=[.val false [.v .bool]],ntmps:=16 } (fun x=>Zzo k x.1 x.2)
theorem Zzo.ok (k:Nat):Zf Tryz.prog 11 (Zzo.con k):=fA (cXr true false (cC (Zwq.ok k) cN)) Tryz.func11
def Zyc.l0:Nat→Int→Str→Option (Str)
 | 0,_,_=>none
 | j+1,a1,a2=>
  bif decide (0<a1) then
   Ya (nz? 10) fun v3=>
   Ya (Zmc (Zlb [(Yb .u8 (Yb .i64 (48+(Yx a1 10))))]) a2) fun v4=>
   Ya (nz? 10) fun v5=>
   Zyc.l0 j (Yb .i64 (Int.tdiv a1 10)) v4
  else
  some a2
def Zyc (k:Nat) (a1:Int):Option (Str):=
 bif decide (a1≤0) then
  some ([109,48]:Str)
 else
 Ya (Zyc.l0 k a1 []) fun y2=>
 Ya (Zmc ([109]:Str) y2) fun v3=>
 some v3
def Zyc.con (k:Nat):Con:=Sig.con { ps:=[.val false (.int .i64) (ros (.int .i64))],rs:=[.val false [.v .str]],ntmps:=20 } (fun x=>Zyc k x)
def Zyc.cok (k:Nat):=cX cN
def Zyc.l0.s (k:Nat):Summ:=lp 20 { tmps:=[(0,.one (.v (.int .i64))),(3,.one (.v .str))],slots:=[],nb:=0 } [(.exit 0,{ tmps:=[(3,.one (.v .str))],slots:=[],nb:=0 })] (fun j x=>Zyc.l0 j x.1 x.2) k
def Zyc.l0.ok (k:Nat):=(lA (Zyc.cok k):Zj Tryz.prog _ (.loop (cO (cO (cL (cR (cR (cR (cB Tryz.f89)))))))) (Zyc.l0.s k))
theorem Zyc.ok (k:Nat):Zf Tryz.prog 89 (Zyc.con k):=fP (.two .auto (.two .auto (.two .auto (.two (.one (.sum (Zyc.l0.s k))) .auto)))) (Zyc.cok k) Tryz.func89 (sC (Zyc.l0.ok k) sN)
def Z3e.l0 (k:Nat):Nat→Int→Int→List Str→Option ((Int×List Str))
 | 0,_,_,_=>none
 | j+1,a1,a2,a3=>
  bif decide (a2<((a3.length):Int)) then
   Ya (Zyc k a1) fun v4=>
   Ya (at? a3 a2) fun v5=>
   Ya (at? a3 a2) fun v6=>
   Z3e.l0 k j (Yb .i64 (a1+1)) (Yb .i64 (a2+1)) (Yk a3 (Yi a2) v4)
  else
  some (a1,a3)
def Z3e (k:Nat) (a1:List Str) (a2:Int):Option (Int×List Str):=
 Ya (Z3e.l0 k k a2 0 a1) fun y3=>
 some (y3.1,y3.2)
def Z3e.con (k:Nat):Con:=Sig.con { ps:=[.val false (.sl .str) [.own 9],.val false (.int .i64) (ros (.int .i64))],rs:=[.val false [.v (.int .i64)]],ntmps:=20 } (fun x=>Z3e k x.1 x.2)
def Z3e.cok (k:Nat):=cX (cC (Zyc.ok k) cN)
def Z3e.l0.s (k:Nat):Summ:=lp 20 { tmps:=[(0,.one (.pin 0)),(1,.one (.v (.int .i64))),(5,.one (.v (.int .i64)))],slots:=[(0,.pin 9 .str)],nb:=1 } [(.exit 0,{ tmps:=[(1,.one (.v (.int .i64)))],slots:=[(0,.pin 9 .str)],nb:=1 })] (fun j x=>Z3e.l0 k j x.1 x.2.1 x.2.2) k
def Z3e.l0.ok (k:Nat):=(lA (Z3e.cok k):Zj Tryz.prog _ (.loop (cO (cO (cR (cL (cR (cB Tryz.f87))))))) (Z3e.l0.s k))
theorem Z3e.ok (k:Nat):Zf Tryz.prog 87 (Z3e.con k):=fP (.two .auto (.two (.two .auto (.one (.sum (Z3e.l0.s k)))) .auto)) (Z3e.cok k) Tryz.func87 (sC (Z3e.l0.ok k) sN)
def Z2e.l0 (k:Nat):Nat→Int→Int→List Zjb→Option ((Int×List Zjb))
 | 0,_,_,_=>none
 | j+1,a1,a2,a3=>
  bif decide (a2<((a3.length):Int)) then
   Ya (at? a3 a2) fun v4=>
   Ya (at? a3 a2) fun v5=>
   let e6:=Yb .i64 (a1+1)
   Ya (Zyc k e6) fun v7=>
   let e8:=Yk a3 (Yi a2) (a1,v5.2)
   let e9:=at? e8 a2
   Ya (e9) fun v10=>
   Ya (e9) fun v11=>
   Z2e.l0 k j (Yb .i64 (e6+1)) (Yb .i64 (a2+1)) (Yk e8 (Yi a2) (v11.1,v7))
  else
  some (a1,a3)
def Z2e (k:Nat) (a1:List Zjb) (a2:Int):Option (Int×List Zjb):=
 Ya (Z2e.l0 k k a2 0 a1) fun y3=>
 some (y3.1,y3.2)
def Z2e.con (k:Nat):Con:=Sig.con { ps:=[.val false (.sl Z2) [.own 130],.val false (.int .i64) (ros (.int .i64))],rs:=[.val false [.v (.int .i64)]],ntmps:=28 } (fun x=>Z2e k x.1 x.2)
def Z2e.cok (k:Nat):=cX (cC (Zyc.ok k) cN)
def Z2e.l0.s (k:Nat):Summ:=lp 28 { tmps:=[(0,.one (.pin 0)),(1,.one (.v (.int .i64))),(5,.one (.v (.int .i64)))],slots:=[(0,.pin 130 Z2)],nb:=1 } [(.exit 0,{ tmps:=[(1,.one (.v (.int .i64)))],slots:=[(0,.pin 130 Z2)],nb:=1 })] (fun j x=>Z2e.l0 k j x.1 x.2.1 x.2.2) k
def Z2e.l0.ok (k:Nat):=(lA (Z2e.cok k):Zj Tryz.prog _ (.loop (cO (cO (cR (cL (cR (cB Tryz.f88))))))) (Z2e.l0.s k))
theorem Z2e.ok (k:Nat):Zf Tryz.prog 88 (Z2e.con k):=fP (.two .auto (.two (.two .auto (.one (.sum (Z2e.l0.s k)))) .auto)) (Z2e.cok k) Tryz.func88 (sC (Z2e.l0.ok k) sN)
def Zxq (k:Nat) (a1:G25) (a2:Int):Option (Int×List Str×List Zjb):=
 Ya (Z3e k a1.1 a2) fun v3=>
 Ya (Z2e k a1.2 v3.1) fun v4=>
 some (v4.1,v3.2,v4.2)
def Zxq.con (k:Nat):Con:=Sig.con { ps:=[.val true T25 [.own 9,.own 130],.val false (.int .i64) (ros (.int .i64))],rs:=[.val false [.v (.int .i64)]],ntmps:=14 } (fun x=>Zxq k x.1 x.2)
theorem Zxq.ok (k:Nat):Zf Tryz.prog 29 (Zxq.con k):=fA (cX (cC (Z3e.ok k) (cC (Z2e.ok k) cN))) Tryz.func29
def Z1o (k:Nat) (a1:G27) (a2:Int):Option (Int×List Str×List Zjb):=
 Ya (Zxq k a1.2 a2) fun v3=>
 some (v3.1,v3.2.1,v3.2.2)
def Z1o.con (k:Nat):Con:=Sig.con { ps:=[.val true T27 [.v,.own 9,.own 130],.val false (.int .i64) (ros (.int .i64))],rs:=[.val false [.v (.int .i64)]],ntmps:=10 } (fun x=>Z1o k x.1 x.2)
theorem Z1o.ok (k:Nat):Zf Tryz.prog 12 (Z1o.con k):=fA (cX (cC (Zxq.ok k) cN)) Tryz.func12
def Zqe.l0 (k:Nat):Nat→Int→Int→List G89→Option ((Int×List G89))
 | 0,_,_,_=>none
 | j+1,a1,a2,a3=>
  bif decide (a2<((a3.length):Int)) then
   Ya (nz? 3) fun v4=>
   Ya (at? a3 a2) fun v5=>
   Ya (at? a3 a2) fun v6=>
   let e7:=Yk a3 (Yi a2) (((Yx a1 3)==0),v6.2)
   let e8:=at? e7 a2
   Ya (e8) fun v9=>
   Ya (e8) fun v10=>
   let e11:=Yb .i64 (a1+1)
   let e12:=Yb .i64 (e11+1)
   Ya (Zyc k e12) fun v13=>
   let e14:=Yk e7 (Yi a2) (v10.1,(e11,v10.2.2))
   let e15:=at? e14 a2
   Ya (e15) fun v16=>
   Ya (e15) fun v17=>
   Zqe.l0 k j (Yb .i64 (e12+1)) (Yb .i64 (a2+1)) (Yk e14 (Yi a2) (v17.1,(v17.2.1,v13)))
  else
  some (a1,a3)
def Zqe (k:Nat) (a1:List G89) (a2:Int):Option (Int×List G89):=
 Ya (Zqe.l0 k k a2 0 a1) fun y3=>
 some (y3.1,y3.2)
def Zqe.con (k:Nat):Con:=Sig.con { ps:=[.val false (.sl T89) [.own 89],.val false (.int .i64) (ros (.int .i64))],rs:=[.val false [.v (.int .i64)]],ntmps:=37 } (fun x=>Zqe k x.1 x.2)
def Zqe.cok (k:Nat):=cX (cC (Zyc.ok k) cN)
def Zqe.l0.s (k:Nat):Summ:=lp 37 { tmps:=[(0,.one (.pin 0)),(1,.one (.v (.int .i64))),(5,.one (.v (.int .i64)))],slots:=[(0,.pin 89 T89)],nb:=1 } [(.exit 0,{ tmps:=[(1,.one (.v (.int .i64)))],slots:=[(0,.pin 89 T89)],nb:=1 })] (fun j x=>Zqe.l0 k j x.1 x.2.1 x.2.2) k
def Zqe.l0.ok (k:Nat):=(lA (Zqe.cok k):Zj Tryz.prog _ (.loop (cO (cO (cR (cL (cR (cB Tryz.f30))))))) (Zqe.l0.s k))
theorem Zqe.ok (k:Nat):Zf Tryz.prog 30 (Zqe.con k):=fP (.two .auto (.two (.two .auto (.one (.sum (Zqe.l0.s k)))) .auto)) (Zqe.cok k) Tryz.func30 (sC (Zqe.l0.ok k) sN)
def Zce.l0:Nat→Int→Int→List Int→Option ((Int×List Int))
 | 0,_,_,_=>none
 | j+1,a1,a2,a3=>
  bif decide (a2<((a3.length):Int)) then
   Ya (at? a3 a2) fun v4=>
   Ya (at? a3 a2) fun v5=>
   Zce.l0 j (Yb .i64 (a1+1)) (Yb .i64 (a2+1)) (Yk a3 (Yi a2) a1)
  else
  some (a1,a3)
def Zce (k:Nat) (a1:List Int) (a2:Int):Option (Int×List Int):=
 Ya (Zce.l0 k a2 0 a1) fun y3=>
 some (y3.1,y3.2)
def Zce.con (k:Nat):Con:=Sig.con { ps:=[.val false (.sl (.int .i64)) [.own 2],.val false (.int .i64) (ros (.int .i64))],rs:=[.val false [.v (.int .i64)]],ntmps:=19 } (fun x=>Zce k x.1 x.2)
def Zce.cok (k:Nat):=cX cN
def Zce.l0.s (k:Nat):Summ:=lp 19 { tmps:=[(0,.one (.pin 0)),(1,.one (.v (.int .i64))),(5,.one (.v (.int .i64)))],slots:=[(0,.pin 2 (.int .i64))],nb:=1 } [(.exit 0,{ tmps:=[(1,.one (.v (.int .i64)))],slots:=[(0,.pin 2 (.int .i64))],nb:=1 })] (fun j x=>Zce.l0 j x.1 x.2.1 x.2.2) k
def Zce.l0.ok (k:Nat):=(lA (Zce.cok k):Zj Tryz.prog _ (.loop (cO (cO (cR (cL (cR (cB Tryz.f31))))))) (Zce.l0.s k))
theorem Zce.ok (k:Nat):Zf Tryz.prog 31 (Zce.con k):=fP (.two .auto (.two (.two .auto (.one (.sum (Zce.l0.s k)))) .auto)) (Zce.cok k) Tryz.func31 (sC (Zce.l0.ok k) sN)
def Z0o (k:Nat) (a1:G37) (a2:Int):Option (Int×List G89×List Int):=
 Ya (Zqe k a1.1 a2) fun v3=>
 Ya (Zce k a1.2.2.1 v3.1) fun v4=>
 some (v4.1,v3.2,v4.2)
def Z0o.con (k:Nat):Con:=Sig.con { ps:=[.val true T37 [.own 89,.v,.own 2,.v],.val false (.int .i64) (ros (.int .i64))],rs:=[.val false [.v (.int .i64)]],ntmps:=14 } (fun x=>Z0o k x.1 x.2)
theorem Z0o.ok (k:Nat):Zf Tryz.prog 13 (Z0o.con k):=fA (cX (cC (Zqe.ok k) (cC (Zce.ok k) cN))) Tryz.func13
def Z1e.l0 (k:Nat):Nat→List G89→Int→Int→Option (Int ⊕ Int)
 | 0,_,_,_=>none
 | j+1,a1,a2,a3=>
  bif decide (a3<((a1.length):Int)) then
   Ya (at? a1 a3) fun v4=>
   Ya (nz? 3) fun v5=>
   bif !(v4.1==((Yx a2 3)==0)) then
    some (.inr (-1))
   else
   Ya (at? a1 a3) fun v6=>
   let e7:=Yb .i64 (a2+1)
   bif v6.2.1 != e7 then
    some (.inr (-1))
   else
   Ya (at? a1 a3) fun v8=>
   let e9:=Yb .i64 (e7+1)
   Ya (Zyc k e9) fun v10=>
   bif !(v8.2.2==v10) then
    some (.inr (-1))
   else
   Z1e.l0 k j a1 (Yb .i64 (e9+1)) (Yb .i64 (a3+1))
  else
  some (.inl a2)
def Z1e (k:Nat) (a1:List G89) (a2:Int):Option (Int):=
 Ya (Z1e.l0 k k a1 a2 0) fun
  | .inl y3=>
   some y3
  | .inr y4=>
   some y4
def Z1e.con (k:Nat):Con:=Sig.con { ps:=[.val false (.sl T89) (ros (.sl T89)),.val false (.int .i64) (ros (.int .i64))],rs:=[.val false [.v (.int .i64)]],ntmps:=43 } (fun x=>Z1e k x.1 x.2)
def Z1e.cok (k:Nat):=cX (cC (Zyc.ok k) cN)
def Z1e.l0.s (k:Nat):Summ:=lp 43 { tmps:=[(0,.one (.bor T89)),(1,.one (.v (.int .i64))),(5,.one (.v (.int .i64)))],slots:=[],nb:=0 } [(.exit 0,{ tmps:=[(1,.one (.v (.int .i64)))],slots:=[],nb:=0 }),(.ret,{ tmps:=[(4,.one (.v (.int .i64)))],slots:=[],nb:=0 })] (fun j x=>Z1e.l0 k j x.1 x.2.1 x.2.2) k
def Z1e.l0.ok (k:Nat):=(lA (Z1e.cok k):Zj Tryz.prog _ (.loop (cO (cO (cR (cL (cR (cB Tryz.f32))))))) (Z1e.l0.s k))
theorem Z1e.ok (k:Nat):Zf Tryz.prog 32 (Z1e.con k):=fP (.two .auto (.two (.two .auto (.one (.sum (Z1e.l0.s k)))) .auto)) (Z1e.cok k) Tryz.func32 (sC (Z1e.l0.ok k) sN)
def Zbe.l0:Nat→List Int→Int→Int→Option (Int ⊕ Int)
 | 0,_,_,_=>none
 | j+1,a1,a2,a3=>
  bif decide (a3<((a1.length):Int)) then
   Ya (at? a1 a3) fun v4=>
   bif v4 != a2 then
    some (.inr (-1))
   else
   Zbe.l0 j a1 (Yb .i64 (a2+1)) (Yb .i64 (a3+1))
  else
  some (.inl a2)
def Zbe (k:Nat) (a1:List Int) (a2:Int):Option (Int):=
 Ya (Zbe.l0 k a1 a2 0) fun
  | .inl y3=>
   some y3
  | .inr y4=>
   some y4
def Zbe.con (k:Nat):Con:=Sig.con { ps:=[.val false (.sl (.int .i64)) (ros (.sl (.int .i64))),.val false (.int .i64) (ros (.int .i64))],rs:=[.val false [.v (.int .i64)]],ntmps:=21 } (fun x=>Zbe k x.1 x.2)
def Zbe.cok (k:Nat):=cX cN
def Zbe.l0.s (k:Nat):Summ:=lp 21 { tmps:=[(0,.one (.bor (.int .i64))),(1,.one (.v (.int .i64))),(5,.one (.v (.int .i64)))],slots:=[],nb:=0 } [(.exit 0,{ tmps:=[(1,.one (.v (.int .i64)))],slots:=[],nb:=0 }),(.ret,{ tmps:=[(4,.one (.v (.int .i64)))],slots:=[],nb:=0 })] (fun j x=>Zbe.l0 j x.1 x.2.1 x.2.2) k
def Zbe.l0.ok (k:Nat):=(lA (Zbe.cok k):Zj Tryz.prog _ (.loop (cO (cO (cR (cL (cR (cB Tryz.f33))))))) (Zbe.l0.s k))
theorem Zbe.ok (k:Nat):Zf Tryz.prog 33 (Zbe.con k):=fP (.two .auto (.two (.two .auto (.one (.sum (Zbe.l0.s k)))) .auto)) (Zbe.cok k) Tryz.func33 (sC (Zbe.l0.ok k) sN)
def Z6m (k:Nat) (a1:G37) (a2:Int):Option (Int):=
 Ya (Z1e k a1.1 a2) fun v3=>
 bif decide (v3<0) then
  some (-1)
 else
 Ya (Zbe k a1.2.2.1 v3) fun v4=>
 bif decide (v4<0) then
  some (-1)
 else
 some v4
def Z6m.con (k:Nat):Con:=Sig.con { ps:=[.val true T37 (ros T37),.val false (.int .i64) (ros (.int .i64))],rs:=[.val false [.v (.int .i64)]],ntmps:=18 } (fun x=>Z6m k x.1 x.2)
theorem Z6m.ok (k:Nat):Zf Tryz.prog 14 (Z6m.con k):=fA (cXr true false (cC (Z1e.ok k) (cC (Zbe.ok k) cN))) Tryz.func14
def Zyg (k:Nat) (a1:G27) (a2:G31):Option (Bool):=
 Ya (Z5o k a1 1048576) fun v3=>
 bif decide (v3<0) then
  some true
 else
 Ya (Z2o a2 v3) fun v4=>
 bif decide (v4<0) then
  some true
 else
 Ya (Zyk k a1) fun v5=>
 Ya (Z7m a2) fun v6=>
 Ya (Zdm k v5 v6) fun v7=>
 Ya (Zyk k a1) fun v8=>
 Ya (Z7m a2) fun v9=>
 Ya (Zuk k v8 v9) fun v10=>
 Ya (Z1l k v10 v7) fun v11=>
 bif !v11 then
  some false
 else
 Ya (Zyk k a1) fun v12=>
 Ya (Zzo k v8 v12) fun v13=>
 bif !v13 then
  some false
 else
 Ya (Z1o k v8 1) fun v14=>
 bif decide (v14.1<0) then
  some false
 else
 Ya (Z1l k v10 v7) fun v15=>
 bif !v15 then
  some false
 else
 Ya (Z0o k v10 1) fun v16=>
 Ya (Z6m k (v16.2.1,(v10.2.1,(v16.2.2,v10.2.2.2))) 1) fun v17=>
 bif decide (v17<0) then
  some false
 else
 bif v17 != v16.1 then
  some false
 else
 Ya (Zyk k a1) fun v18=>
 Ya (Z7m a2) fun v19=>
 Ya (Zuk k v18 v19) fun v20=>
 Ya (Z1l k v20 v7) fun v21=>
 bif !v21 then
  some false
 else
 Ya (Z6m k (v16.2.1,(v10.2.1,(v16.2.2,v10.2.2.2))) 1) fun v22=>
 bif decide (v22<0) then
  some false
 else
 bif v22 != v16.1 then
  some false
 else
 some true
def Zyg.sig:Sig:={ ps:=[.val true T27 (ros T27),.val true T31 (ros T31)],rs:=[.val false [.v .bool]],ntmps:=82 }
def Zyg.con (k:Nat):Con:=Zyg.sig.con (fun x=>Zyg k x.1 x.2)
theorem Zyg.ok (k:Nat):Zf Tryz.prog 3 (Zyg.con k):=fA (cXr true false (cC (Z5o.ok k) (cC (Z2o.ok k) (cC (Zdm.ok k) (cC (Zyk.ok k) (cC (Z7m.ok k) (cC (Zuk.ok k) (cC (Z1l.ok k) (cC (Zzo.ok k) (cC (Z1o.ok k) (cC (Z0o.ok k) (cC (Z6m.ok k) cN)))))))))))) Tryz.func3
end Go.Proofs.Qz
namespace Go.Proofs.Qz
open Go
set_option linter.unusedVariables false
def Ze (p:Nat→Prop):Prop:=∃K,∀k,K≤k→p k
theorem Ze.of {p:Nat→Prop} (h:∀k,p k):Ze p:=⟨0,fun k _=>h k⟩
theorem Ze.ge {p:Nat→Prop} (K:Nat) (h:∀k,K≤k→p k):Ze p:=⟨K,h⟩
theorem Ze.mono {p q:Nat→Prop} (h:Ze p) (f:∀k,p k→q k):Ze q:=by
 obtain ⟨K,h⟩:=h
 exact ⟨K,fun k hk=>f k (h k hk)⟩
theorem Ze.and {p q:Nat→Prop} (h:Ze p) (g:Ze q):Ze fun k=>p k∧q k:=by
 obtain ⟨K,h⟩:=h
 obtain ⟨J,g⟩:=g
 exact ⟨K+J,fun k hk=>⟨h k (by omega),g k (by omega)⟩⟩
theorem Ze.ex {p:Nat→Prop} (h:Ze p):∃k,p k:=by
 obtain ⟨K,h⟩:=h
 exact ⟨K,h K (Yu K)⟩
theorem Ze.all {n:Nat} {p:Nat→Nat→Prop}:(∀i,i<n→Ze (p i))→Ze fun k=>∀i,i<n→p i k:=by
 induction n with
 | zero=>exact fun _=>⟨0,fun k _ i hi=>absurd hi (Yl i)⟩
 | succ n ih=>
  intro h
  refine ((ih fun i hi=>h i (Nat.lt_succ_of_lt hi)).and (h n (Nat.lt_succ_self n))).mono fun k hk i hi=>?_
  rcases Nat.eq_or_lt_of_le (Nat.le_of_lt_succ hi) with rfl | hi
  ·exact hk.2
  ·exact hk.1 i hi
theorem Ze.two {p q r:Nat→Prop} (h:Ze p) (g:Ze q) (f:∀k,p k→q k→r k):Ze r:=(h.and g).mono fun k hk=>f k hk.1 hk.2
theorem Zgu {R:Type} (L:Nat→Nat→Nat→Option R) (n:Nat) (r:R) (hs:Ze fun k=>∀i,i<n→∀j,L k (j+1) i=L k j (i+1)) (hl:Ze fun k=>∀j,L k (j+1) n=some r):Ze fun k=>L k k 0=some r:=by
 obtain ⟨K,hs⟩:=hs
 obtain ⟨J,hl⟩:=hl
 refine ⟨K+J+n+1,fun k hk=>?_⟩
 have hs:=hs k (by omega)
 have hl:=hl k (by omega)
 have key:∀d i j,i+d=n→d<j→L k j i=some r:=by
  intro d
  induction d with
  | zero=>
   intro i j hi hj
   obtain ⟨m,rfl⟩:∃m,j=m+1:=⟨j-1,by omega⟩
   obtain rfl:i=n:=by omega
   exact hl m
  | succ d ih=>
   intro i j hi hj
   obtain ⟨m,rfl⟩:∃m,j=m+1:=⟨j-1,by omega⟩
   rw [hs i (by omega) m]
   exact ih (i+1) m (by omega) (by omega)
 exact key n 0 k (by omega) (by omega)
theorem Z0x {R:Type} (L:Nat→Nat→Option R) (n:Nat) (r:R) (hs:∀i,i<n→∀j,L (j+1) i=L j (i+1)) (hl:∀j,L (j+1) n=some r):Ze fun k=>L k 0=some r:=
 Zgu (fun _ j i=>L j i) n r (Ze.of fun _=>hs) (Ze.of fun _=>hl)
theorem Zzb {R:Type} (L:Nat→Nat→Option R) (n:Nat) (r:R) (hs:∀i,i<n→∀j,L (j+1) i=L j (i+1)) (hl:∀j,L (j+1) n=some r):∀k,n<k→L k 0=some r:=by
 have key:∀d i j,i+d=n→d<j→L j i=some r:=by
  intro d
  induction d with
  | zero=>
   intro i j hi hj
   obtain ⟨m,rfl⟩:∃m,j=m+1:=⟨j-1,by omega⟩
   obtain rfl:i=n:=by omega
   exact hl m
  | succ d ih=>
   intro i j hi hj
   obtain ⟨m,rfl⟩:∃m,j=m+1:=⟨j-1,by omega⟩
   rw [hs i (by omega) m]
   exact ih (i+1) m (by omega) (by omega)
 exact fun k hk=>key n 0 k (by omega) hk
theorem w64 {n:Int} (h0:-9223372036854775808≤n) (h1:n<9223372036854775808):Yb .i64 n=n:=by
 simp [Yb,Ys,Yy]
 omega
theorem wn {n:Nat} (h:n<9223372036854775808):Yb .i64 (n:Int)=n:=w64 (by omega) (by omega)
theorem Zn {n:Nat} (h:n<9223372036854775807):Yb .i64 ((n:Int)+1)=((n+1:Nat):Int):=by rw [w64] <;> omega
theorem Zi {α:Type} {l:List α} {i:Nat} (h:i<l.length):at? l (i:Int)=some l[i]:=by
 unfold at?
 rw [if_pos (by omega),Yd,List.getElem?_eq_getElem h]
theorem Zab {α:Type} {n:Nat} {a b:List α} (h:(a.length+b.length)*n≤140737488355328):Zu n a b=some (a++b):=if_pos h
theorem Zrc {a b:Str} (h:a.length+b.length≤9223372036854775807):Zmc a b=some (a++b):=if_pos h
theorem Z1u {α:Type} {b n:Nat} {x:α} (h:n*b≤140737488355328):Zlg b (n:Int) (n:Int) x=some (Yt n x):=by
 unfold Zlg
 rw [if_pos ⟨by omega,Int.le_refl _,by rw [Yd];exact h⟩,Yd]
theorem Znh {α:Type} {l:List α} {i j:Nat} (h:i≤j) (k:j≤l.length):Z8b l (i:Int) (j:Int)=some ((l.take j).drop i):=by
 unfold Z8b
 rw [if_pos ⟨by omega,by omega,by omega⟩,Yd,Yd]
theorem Zmbb {n b:Nat} (h:n*b≤140737488355328):Zmv n b=some ():=if_pos h
theorem Z9o {b:Int} (h:b≠0):nz? b=some ():=if_neg h
theorem Zzc {b:Int} (h:0≤b):Zsb b=some ():=if_neg (by omega)
theorem Zddb {α β:Type} {l:List α} (f:α→β) {i:Nat} (h:i<l.length):(l.take (i+1)).map f=(l.take i).map f++[f l[i]]:=by
 rw [Yia,List.getElem?_eq_getElem h,List.map_append]
 rfl
theorem Zth {α:Type} {l:List α} {i:Nat} (h:i<l.length):l.take (i+1)=l.take i++[l[i]]:=by
 rw [Yia,List.getElem?_eq_getElem h]
 rfl
end Go.Proofs.Qz
namespace Go.Proofs.Qz
open Go
set_option linter.unusedVariables false
def Z5k {α S R:Type} (f:S→α→S ⊕ R) (g:S→R):List α→S→R
 | [],s=>g s
 | x::l,s=>match f s x with
  | .inl s'=>Z5k f g l s'
  | .inr r=>r
theorem Z0kb {α S R:Type} {f:S→α→S ⊕ R} {g:S→R} {x:α} {l:List α} {s s':S} (h:f s x = .inl s'):Z5k f g (x::l) s=Z5k f g l s':=by
 have e:Z5k f g (x::l) s=match f s x with | .inl s'=>Z5k f g l s' | .inr r=>r:=rfl
 rw [e,h]
theorem Znjb {α S R:Type} (L:Nat→S→Int→Option R) (l:List α) (f:S→α→S ⊕ R) (g:S→R) (I:Nat→S→Prop)
  (hs:∀(i:Nat) (h:i<l.length) (s:S),I i s→(∃s',f s l[i] = .inl s'∧I (i+1) s'∧∀j,L (j+1) s (i:Int)=L j s' ((i+1:Nat):Int))∨∃r,f s l[i] = .inr r∧∀j,L (j+1) s (i:Int)=some r)
  (he:∀(s:S),I l.length s→∀j,L (j+1) s (l.length:Int)=some (g s)):∀(d i:Nat) (s:S),i+d=l.length→I i s→∀j,d<j→L j s (i:Int)=some (Z5k f g (l.drop i) s):=by
 intro d
 induction d with
 | zero=>
  intro i s hi hI j hj
  obtain ⟨j,rfl⟩:∃q,j=q+1:=⟨j-1,by omega⟩
  obtain rfl:i=l.length:=by omega
  rw [Y3,he s hI]
  rfl
 | succ d ih=>
  intro i s hi hI j hj
  obtain ⟨j,rfl⟩:∃q,j=q+1:=⟨j-1,by omega⟩
  have hlt:i<l.length:=by omega
  rw [Yo hlt]
  rcases hs i hlt s hI with ⟨s',h1,h2,h3⟩ | ⟨r,h1,h3⟩
  ·rw [h3 j]
   show _=some (match f s l[i] with | .inl s'=>Z5k f g (l.drop (i+1)) s' | .inr r=>r)
   rw [h1]
   exact ih (i+1) s' (by omega) h2 j (by omega)
  ·rw [h3 j]
   show _=some (match f s l[i] with | .inl s'=>Z5k f g (l.drop (i+1)) s' | .inr r=>r)
   rw [h1]
theorem Zmjb {α S R:Type} (L:Nat→S→Int→Option R) (l:List α) (f:S→α→S ⊕ R) (g:S→R) (I:Nat→S→Prop)
  (hs:∀(i:Nat) (h:i<l.length) (s:S),I i s→(∃s',f s l[i] = .inl s'∧I (i+1) s'∧∀j,L (j+1) s (i:Int)=L j s' ((i+1:Nat):Int))∨∃r,f s l[i] = .inr r∧∀j,L (j+1) s (i:Int)=some r)
  (he:∀(s:S),I l.length s→∀j,L (j+1) s (l.length:Int)=some (g s)) {s:S} (hI:I 0 s) {k:Nat} (hk:l.length<k):L k s 0=some (Z5k f g l s):=
 Znjb L l f g I hs he l.length 0 s (Yq _) hI k hk
def Z1b {α:Type} (p:α→Bool):List α→Nat→Option Nat
 | [],_=>none
 | x::l,i=>if p x then some i else Z1b p l (i+1)
theorem Zph {α R:Type} (L:Nat→Int→Option R) (l:List α) (p:α→Bool) (a:R) (b:Nat→R)
  (hs:∀(i:Nat) (h:i<l.length),(p l[i]=false→∀j,L (j+1) (i:Int)=L j ((i+1:Nat):Int))∧(p l[i]=true→∀j,L (j+1) (i:Int)=some (b i)))
  (he:∀j,L (j+1) (l.length:Int)=some a) {k:Nat} (hk:l.length<k):L k 0=some (match Z1b p l 0 with | some i=>b i | none=>a):=by
 have key:∀(d i:Nat),i+d=l.length→∀j,d<j→L j (i:Int)=some (match Z1b p (l.drop i) i with | some i=>b i | none=>a):=by
  intro d
  induction d with
  | zero=>
   intro i hi j hj
   obtain ⟨j,rfl⟩:∃q,j=q+1:=⟨j-1,by omega⟩
   obtain rfl:i=l.length:=by omega
   rw [Y3,he]
   rfl
  | succ d ih=>
   intro i hi j hj
   obtain ⟨j,rfl⟩:∃q,j=q+1:=⟨j-1,by omega⟩
   have hlt:i<l.length:=by omega
   rw [Yo hlt]
   obtain ⟨h1,h2⟩:=hs i hlt
   cases hp:p l[i] with
   | true=>rw [h2 hp j];simp [Z1b,hp]
   | false=>
    rw [h1 hp j,ih (i+1) (by omega) j (by omega)]
    simp [Z1b,hp]
 have:=key l.length 0 (Yq _) k hk
 rwa [Y4] at this
theorem Zxm {α:Type} {p:α→Bool}:∀{l:List α} {n i:Nat},Z1b p l n=some i→n≤i∧∃h:i-n<l.length,p (l[i-n])=true∧∀j,(hj:j<i-n)→p (l[j]'(by omega))=false
 | [],_,_,h=>by cases h
 | x::l,n,i,h=>by
  unfold Z1b at h
  split at h
  ·rename_i hp
   cases h
   refine ⟨Yu _,by simp,?_,fun j hj=>by omega⟩
   simpa using hp
  ·rename_i hp
   obtain ⟨h1,h2,h3,h4⟩:=Zxm h
   refine ⟨by omega,by simp only [Yz];omega,?_,fun j hj=>?_⟩
   ·have e:i-n=(i-(n+1))+1:=by omega
    simpa [e] using h3
   ·cases j with
    | zero=>simpa using hp
    | succ j=>simpa using h4 j (by omega)
theorem Z7r {α:Type} {p:α→Bool}:∀{l:List α} {n:Nat},Z1b p l n=none ↔ ∀x∈l,p x=false
 | [],n=>by simp [Z1b]
 | x::l,n=>by
  unfold Z1b
  split
  ·rename_i hp
   simp [hp]
  ·rename_i hp
   rw [Z7r]
   simp at hp
   simp [hp]
theorem Z6r {α:Type} {p:α→Bool} {l:List α} {n:Nat}:(Z1b p l n).isSome=l.any p:=by
 cases h:Z1b p l n with
 | none=>
  have:=Z7r.1 h
  symm
  simp only [Option.isSome_none,List.any_eq_false]
  intro x hx
  rw [this x hx]
  exact nofun
 | some i=>
  obtain ⟨_,h2,h3,_⟩:=Zxm h
  symm
  exact List.any_eq_true.2 ⟨_,Yfa h2,h3⟩
theorem Zzw {α:Type} (L:Nat→Int→List α→Option (List α)) (l:List α) (z:α)
  (hs:∀(i:Nat) (h:i<l.length) (c:List α),c.length=l.length→∀j,L (j+1) (i:Int) c=L j ((i+1:Nat):Int) (c.set i l[i]))
  (he:∀(c:List α) j,L (j+1) (l.length:Int) c=some c) {k:Nat} (hk:l.length<k):L k 0 (Yt l.length z)=some l:=by
 have key:∀(d i:Nat),i+d=l.length→∀j,d<j→L j (i:Int) (l.take i++Yt (l.length-i) z)=some l:=by
  intro d
  induction d with
  | zero=>
   intro i hi j hj
   obtain ⟨j,rfl⟩:∃q,j=q+1:=⟨j-1,by omega⟩
   obtain rfl:i=l.length:=by omega
   rw [he,Ysa,Yka]
   simp
  | succ d ih=>
   intro i hi j hj
   obtain ⟨j,rfl⟩:∃q,j=q+1:=⟨j-1,by omega⟩
   have hlt:i<l.length:=by omega
   rw [hs i hlt _ (by simp;omega)]
   have e:(l.take i++Yt (l.length-i) z).set i l[i]=l.take (i+1)++Yt (l.length-(i+1)) z:=by
    have hl:(l.take i).length=i:=by simp;omega
    rw [List.set_append_right _ _ (by omega),hl,Ysa,show l.length-i=(l.length-(i+1))+1 by omega,List.replicate_succ,List.set_cons_zero,Zth hlt,Yn]
    rfl
   rw [e]
   exact ih (i+1) (by omega) j (by omega)
 have:=key l.length 0 (Yq _) k hk
 simpa using this
theorem dlt {a b:Nat} (h:a<b):decide ((a:Int)<(b:Int))=true:=decide_eq_true (by omega)
theorem Zy {a b:Nat} (h:b≤a):decide ((a:Int)<(b:Int))=false:=decide_eq_false (by omega)
theorem Za {α β:Type} {x:Option α} {f:α→Option β} {a:α} {b:Option β} (h:x=some a) (k:f a=b):x.bind f=b:=by rw [h];exact k
theorem Zefb {α:Type} (L:Nat→Nat→Str→Int→Option Str) (l:List α) (f:α→Str) (B M:Nat) (hB:∀x∈l,(f x).length≤B)
  (hs:∀i,(h:i<l.length)→Ze fun k=>∀acc j,acc.length≤M→L k (j+1) acc (i:Int)=L k j (acc++f l[i]) ((i+1:Nat):Int))
  (he:∀k acc j,L k (j+1) acc (l.length:Int)=some acc) (acc:Str) (ha:acc.length+B*l.length≤M):Ze fun k=>L k k acc 0=some (acc++(l.map f).flatten):=by
 have hall:Ze fun k=>∀i,i<l.length→∀(h:i<l.length) acc j,acc.length≤M→L k (j+1) acc (i:Int)=L k j (acc++f l[i]) ((i+1:Nat):Int):=Ze.all fun i hi=>(hs i hi).mono fun k hk h=>hk
 obtain ⟨K,hK⟩:=hall
 refine Ze.ge (K+l.length+1) fun k hk=>?_
 have hK:=hK k (by omega)
 have key:∀(d i:Nat) (acc:Str),i+d=l.length→acc.length+B*d≤M→∀j,d<j→L k j acc (i:Int)=some (acc++((l.drop i).map f).flatten):=by
  intro d
  induction d with
  | zero=>
   intro i acc hi hacc j hj
   obtain ⟨j,rfl⟩:∃q,j=q+1:=⟨j-1,by omega⟩
   obtain rfl:i=l.length:=by omega
   rw [he,Y3]
   simp
  | succ d ih=>
   intro i acc hi hacc j hj
   obtain ⟨j,rfl⟩:∃q,j=q+1:=⟨j-1,by omega⟩
   have h:i<l.length:=by omega
   have hf:=hB _ (Yfa h)
   rw [Nat.mul_succ] at hacc
   rw [hK i h h acc j (by omega),ih (i+1) _ (by omega) (by rw [Yj];omega) j (by omega),Yo h,List.map_cons,List.flatten_cons,Yn]
 have:=key l.length 0 acc (Yq _) ha k (by omega)
 rwa [Y4] at this
end Go.Proofs.Qz
namespace Go.Proofs.Qz
open Go
set_option linter.unusedVariables false
theorem u8w (n:Int):Yb .u8 n=n%256:=by simp [Yb,Ys,Yy]
theorem Zir (n:Int):Yb .u32 n=n%4294967296:=by simp [Yb,Ys,Yy]
theorem Z3g (n:Int):Yb .u64 n=n%18446744073709551616:=by simp [Yb,Ys,Yy]
theorem Zwn (a b:Nat) (ha:a<4294967296) (hb:b<4294967296):intBits .xor .u32 (a:Int) (b:Int)=((a ^^^ b:Nat):Int):=by
 have hx:a ^^^ b<2^32:=Yta (by omega) (by omega)
 show Yb .u32 (((Ye 32 (a:Int)) ^^^ (Ye 32 (b:Int))).toNat:Int)=_
 rw [Yg,Yg,BitVec.toNat_xor,Yh,Yh,Zir,Yf (show a<2^32 by omega),Yf (show b<2^32 by omega)]
 omega
theorem Zq6 (a:Nat) (ha:a<4294967296):intBits .and .u32 (a:Int) 1=((a%2:Nat):Int):=by
 have h:a &&& 1=a%2:=Yma a
 show Yb .u32 (((Ye 32 (a:Int)) &&& (Ye 32 ((1:Nat):Int))).toNat:Int)=_
 rw [Yg,Yg,Y9,Yh,Yh,Zir,Yf (show a<2^32 by omega),Yf (show 1<2^32 by omega),h]
 omega
theorem Zveb (a:Nat) (ha:a<18446744073709551616):intBits .and .u64 (a:Int) 1=((a%2:Nat):Int):=by
 have h:a &&& 1=a%2:=Yma a
 show Yb .u64 (((Ye 64 (a:Int)) &&& (Ye 64 ((1:Nat):Int))).toNat:Int)=_
 rw [Yg,Yg,Y9,Yh,Yh,Z3g,Yf (show a<2^64 by omega),Yf (show 1<2^64 by omega),h]
 omega
theorem Z0eb (a b:Nat) (ha:a<18446744073709551616) (hb:b<18446744073709551616):intBits .or .u64 (a:Int) (b:Int)=((a ||| b:Nat):Int):=by
 show Yb .u64 (((Ye 64 (a:Int)) ||| (Ye 64 (b:Int))).toNat:Int)=_
 have hx:a ||| b<2^64:=Nat.or_lt_two_pow (by omega) (by omega)
 rw [Yg,Yg,BitVec.toNat_or,Yh,Yh,Z3g,Yf (show a<2^64 by omega),Yf (show b<2^64 by omega)]
 omega
theorem Zjeb:∀a:Nat,a<256→intBits .and .u8 ((a:Nat):Int) 127=((a%128:Nat):Int):=by decide +kernel
theorem Z6jb (a:Nat) (h:a<9223372036854775808):intBits .xor .i64 (-1) (a:Int) = -(a:Int)-1:=by
 show Yb .i64 (((Ye 64 (-1)) ^^^ (Ye 64 (a:Int))).toNat:Int)=_
 have e:(Ye 64 (-1))=BitVec.allOnes 64:=by decide
 rw [Yg,e,BitVec.allOnes_xor,BitVec.toNat_not,Yh,IntKind.wrap_i64,Yf (show a<2^64 by omega)]
 omega
theorem Z8h (k:IntKind) (r m:Nat) (h:m≤k.bits):shr k (r:Int) (m:Int)=((r/2^m:Nat):Int):=by
 unfold shr
 rw [Yd,Yoa h,Int.fdiv_eq_ediv_of_nonneg _ (by exact Int.le_of_lt (Int.pow_pos (by omega)))]
 push_cast
 rfl
theorem Zyn (c:UInt8):c.toNat<256:=c.toNat_lt
theorem Z5eb (c:UInt8):UInt8.ofNat ((c.toNat:Nat):Int).toNat=c:=by simp
def Z6j (r:Nat):Nat:=if r%2=1 then (r/2) ^^^ 3988292384 else r/2
def Ziq:Nat→Nat→Nat
 | 0,r=>r
 | n+1,r=>Ziq n (Z6j r)
def Zjq:Str→Nat→Nat
 | [],r=>r
 | c::l,r=>Zjq l (Ziq 8 (r ^^^ c.toNat))
def Zeg (c:Nat) (s:Str):Nat:=(Zjq s (c ^^^ 4294967295)) ^^^ 4294967295
theorem x32 {a b:Nat} (ha:a<4294967296) (hb:b<4294967296):a ^^^ b<4294967296:=Yta (n:=32) ha hb
theorem Z9t {r:Nat} (h:r<4294967296):Z6j r<4294967296:=by
 unfold Z6j
 split
 ·exact x32 (by omega) (by omega)
 ·omega
theorem Z0w:∀(n:Nat) {r:Nat},r<4294967296→Ziq n r<4294967296
 | 0,_,h=>h
 | n+1,_,h=>Z0w n (Z9t h)
theorem Zd1:∀(l:Str) {r:Nat},r<4294967296→Zjq l r<4294967296
 | [],_,h=>h
 | c::l,r,h=>Zd1 l (Z0w 8 (x32 h (by have:=Zyn c;omega)))
def Zas (n:Nat):Str:=Zlb [((n%256:Nat):Int),((n/256%256:Nat):Int),((n/65536%256:Nat):Int),((n/16777216%256:Nat):Int)]
def Zdh (s:Str):Str:=s++Zas (Zeg 0 s)
theorem Zfx (n:Nat):(Zas n).length=4:=rfl
def Zl (s:Str):Str:=s.take (s.length-4)
theorem Zcq (s:Str):(Zl s).length=s.length-4:=by unfold Zl;simp
theorem Zrcb {a b:Str}:Zdh a=Zdh b ↔ a=b:=by
 constructor
 ·intro h
  exact List.append_inj_left' h (by rw [Zfx,Zfx])
 ·rintro rfl;rfl
theorem Zcdb (s:Str):(Zas (Zeg 0 (Zl s))=s.drop (s.length-4)) ↔ Zdh (Zl s)=s:=by
 have e:s=Zl s++s.drop (s.length-4):=(Yja _ _).symm
 unfold Zdh
 constructor
 ·intro h;rw [h];exact e.symm
 ·intro h
  exact List.append_cancel_left (h.trans e)
def Ztc (s:Str):Str×Int:=if s.length<4 then ([],4) else if Zdh (Zl s)=s then (Zl s,0) else ([],5)
theorem Zht {s:Str} (h:(Ztc s).2=0):Ztc s=(Zl s,0)∧Zdh (Zl s)=s∧4≤s.length:=by
 unfold Ztc at h ⊢
 by_cases h4:s.length<4
 ·rw [if_pos h4] at h;simp at h
 ·rw [if_neg h4] at h ⊢
  by_cases he:Zdh (Zl s)=s
  ·rw [if_pos he];exact ⟨rfl,he,by omega⟩
  ·rw [if_neg he] at h;simp at h
theorem Znnb {s:Str} (h:(Ztc s).2≠0):(Ztc s).1=[]:=by
 unfold Ztc at h ⊢
 by_cases h4:s.length<4
 ·rw [if_pos h4]
 ·rw [if_neg h4] at h ⊢
  by_cases he:Zdh (Zl s)=s
  ·rw [if_pos he] at h;exact absurd rfl h
  ·rw [if_neg he]
theorem Zsdb (s:Str):(Ztc s).1.length≤s.length:=by
 unfold Ztc
 split
 ·simp
 ·split
  ·rw [Zcq];omega
  ·simp
def zig (n:Int):Nat:=if n<0 then (-2*n-1).toNat else (2*n).toNat
def Zhc:Nat→Nat→List Int
 | 0,_=>[]
 | f+1,u=>if 128≤u then ((u%128+128:Nat):Int)::Zhc f (u/128) else [(u:Int)]
def Zm (n:Int):Str:=Zlb (Zhc 10 (zig n))
def Num (n:Int):Prop:=-9223372036854775808≤n∧n<9223372036854775808
theorem Zv5 {n:Int} (h:Num n):zig n<18446744073709551616:=by unfold Num at h;unfold zig;split <;> omega
theorem Zw8:∀(f u:Nat),(Zhc f u).length≤f
 | 0,_=>by simp [Zhc]
 | f+1,u=>by
  unfold Zhc
  split
  ·simp only [Yz];have:=Zw8 f (u/128);omega
  ·simp
theorem Zzk (l:List Int):(Zlb l).length=l.length:=by simp [Zlb]
theorem Znc (n:Int):(Zm n).length≤10:=by
 unfold Zm
 rw [Zzk]
 exact Zw8 10 _
theorem Z63 (n:Int):1≤(Zm n).length:=by
 unfold Zm
 rw [Zzk]
 unfold Zhc
 split <;> simp
def Z3b (s:Str):Str:=Zm (s.length:Int)++s
theorem Zoj (s:Str):(Z3b s).length≤10+s.length:=by
 unfold Z3b
 have:=Znc (s.length:Int)
 rw [Yj]
 omega
def unz (u:Nat):Int:=if u%2=1 then -((u/2:Nat):Int)-1 else ((u/2:Nat):Int)
def gn:Nat→Nat→Nat→Str→Int×Nat×Int
 | 0,_,_,_=>(0,0,3)
 | _+1,_,_,[]=>(0,0,4)
 | f+1,i,u,b::l=>if i=9∧1<b.toNat then (0,0,3) else if 128≤b.toNat then gn f (i+1) (u+b.toNat%128*128^i) l else if b.toNat=0∧0<i then (0,0,3) else (unz (u+b.toNat%128*128^i),i+1,0)
def fin (a:Nat) (r:Int×Nat×Int):Int×Int×Int:=if r.2.2=0 then (r.1,((a+r.2.1:Nat):Int),0) else (0,0,r.2.2)
def Z8c (s:Str) (a:Nat):Int×Int×Int:=fin a (gn 10 0 0 (s.drop a))
theorem Zz3 (i:Nat):(2:Nat)^(7*i)=128^i:=by rw [Nat.pow_mul]
theorem Zqz {i u b:Nat} (_:i≤8) (hu:u<128^i):u+b%128*128^i<128^(i+1):=by
 have h1:b%128≤127:=by omega
 have h2:b%128*128^i≤127*128^i:=Y7 _ h1
 rw [Yp]
 omega
theorem Ztab {i:Nat} (hi:i≤9):128^i≤9223372036854775808:=by
 have:128^i≤128^9:=Yqa (by omega) hi
 simpa using this
theorem Zgdb {i b:Nat} (hi:i≤9) (h9:i=9→b≤1):b%128*128^i<18446744073709551616:=by
 by_cases h:i=9
 ·have:=h9 h
  subst h
  have:b%128≤1:=by omega
  have:=Y7 (128^9) this
  simp at this ⊢
  omega
 ·have h1:128^i≤128^8:=Yqa (by omega) (by omega)
  have h2:b%128≤127:=by omega
  have:=Nat.mul_le_mul h2 h1
  simp at this
  omega
theorem Zc5 {i u b:Nat} (hi:i≤9) (hu:u<128^i) (h9:i=9→b≤1):u+b%128*128^i<18446744073709551616:=by
 by_cases h:i=9
 ·have:=h9 h
  subst h
  have h1:b%128≤1:=by omega
  have:=Y7 (128^9) h1
  simp at this hu ⊢
  omega
 ·have h1:=Zqz (b:=b) (show i≤8 by omega) hu
  have h2:=Ztab (show i+1≤9 by omega)
  omega
theorem Zvcb {i b:Nat} (hi:i≤9) (h9:i=9→b≤1):shl .u64 ((b%128:Nat):Int) ((7*i:Nat):Int)=((b%128*128^i:Nat):Int):=by
 unfold shl
 rw [Yd,Yoa (by simp [Ys];omega),Z3g]
 have e:((b%128:Nat):Int)*2^(7*i)=((b%128*128^i:Nat):Int):=by rw [← Zz3];push_cast;rfl
 rw [e]
 have:=Zgdb hi h9
 omega
theorem Zdkb {i u b:Nat} (hu:u<128^i):u ||| (b%128*128^i)=u+b%128*128^i:=by
 have h:=@Nat.shiftLeft_add_eq_or_of_lt (7*i) u (by rw [Zz3];exact hu) (b%128)
 rw [Nat.shiftLeft_eq,Zz3] at h
 rw [Nat.or_comm,← h,Yla]
theorem Zwnb (v:Nat):zig (unz v)=v:=by
 unfold unz
 split
 ·unfold zig;split <;> omega
 ·unfold zig;split <;> omega
theorem Zpnb (n:Int):unz (zig n)=n:=by
 unfold zig
 split
 ·unfold unz;split <;> omega
 ·unfold unz;split <;> omega
theorem Zonb {v:Nat} (h:v<18446744073709551616):Num (unz v):=by
 unfold Num unz
 split <;> omega
theorem Zq8:∀(f i u:Nat) (l:Str),i+f=10→i≤9→u<128^i→(gn f i u l).2.2=0 →
  ∃v,gn f i u l=(unz (u+v*128^i),i+(Zhc f v).length,0)∧l=Zlb (Zhc f v)++l.drop (Zhc f v).length∧u+v*128^i<18446744073709551616∧(0<i→v≠0)
 | 0,i,u,l,hf,h9,_,_=>by omega
 | f+1,i,u,[],hf,h9,hu,h0=>by simp [gn] at h0
 | f+1,i,u,c::l,hf,hi9,hu,h0=>by
  have hb:=Zyn c
  have hbc:=Z5eb c
  simp only [gn] at h0 ⊢
  generalize hcb:c.toNat=b at h0 hb hbc ⊢
  by_cases h9:i=9∧1<b
  ·rw [if_pos h9] at h0;simp at h0
  rw [if_neg h9] at h0 ⊢
  have hb9:i=9→b≤1:=fun h=>by
   rcases Y6 1 b with h1 | h1
   ·exact absurd ⟨h,h1⟩ h9
   ·exact h1
  by_cases h128:128≤b
  ·have hi8:i≤8:=by
    by_cases h:i=9
    ·have:=hb9 h;omega
    ·omega
   rw [if_pos h128] at h0 ⊢
   obtain ⟨v,e1,e2,e3,e4⟩:=Zq8 f (i+1) (u+b%128*128^i) l (by omega) (by omega) (Zqz hi8 hu) h0
   have hv:=e4 (by omega)
   have hs:u+b%128*128^i+v*128^(i+1)=u+(b%128+128*v)*128^i:=by
    rw [Yp,Nat.add_mul,Yv (128^i) 128,← Ypa,Yv v 128,Y5]
   have hg:Zhc (f+1) (b%128+128*v)=(b:Int)::Zhc f v:=by
    have h1:128≤b%128+128*v:=by omega
    have h2:(b%128+128*v)/128=v:=by omega
    have h3:(b%128+128*v)%128+128=b:=by omega
    simp only [Zhc,if_pos h1,h2,h3]
   refine ⟨b%128+128*v,?_,?_,?_,?_⟩
   ·rw [e1,hs,hg,Yz,Y5,Yla 1]
   ·rw [hg]
    show c::l=UInt8.ofNat ((b:Nat):Int).toNat::(Zlb (Zhc f v)++l.drop (Zhc f v).length)
    rw [hbc,← e2]
   ·rw [← hs];exact e3
   ·intro _;omega
  ·rw [if_neg h128] at h0 ⊢
   by_cases hz:b=0∧0<i
   ·rw [if_pos hz] at h0;simp at h0
   rw [if_neg hz] at h0 ⊢
   have hm:b%128=b:=by omega
   have hsl:=Zc5 (b:=b) hi9 hu hb9
   rw [hm] at hsl ⊢
   have hg:Zhc (f+1) b=[(b:Int)]:=by simp only [Zhc,if_neg h128]
   refine ⟨b,?_,?_,hsl,?_⟩
   ·rw [hg];rfl
   ·rw [hg]
    show c::l=UInt8.ofNat ((b:Nat):Int).toNat::l
    rw [hbc]
   ·intro hi hb0;exact hz ⟨hb0,hi⟩
structure Got (s:Str) (a:Nat) (n:Int) (a':Nat):Prop where
 at':a'=a+(Zm n).length
 le:a'≤s.length
 eq:s.drop a=Zm n++s.drop a'
 range:Num n
theorem Zdk (s:Str) (a:Nat):(∃(n:Int) (a':Nat),Z8c s a=(n,(a':Int),0)∧Got s a n a')∨∃c,c≠0∧Z8c s a=(0,0,c):=by
 unfold Z8c fin
 by_cases h:(gn 10 0 0 (s.drop a)).2.2=0
 ·left
  obtain ⟨v,e1,e2,e3,_⟩:=Zq8 10 0 0 (s.drop a) (by omega) (by omega) (by omega) h
  simp only [Yra,Nat.mul_one,Yq] at e1 e3
  have hB:Zm (unz v)=Zlb (Zhc 10 v):=by unfold Zm;rw [Zwnb]
  have hsz:(Zm (unz v)).length=(Zhc 10 v).length:=by rw [hB,Zzk]
  refine ⟨unz v,a+(Zm (unz v)).length,?_,rfl,?_,?_,Zonb e3⟩
  ·rw [e1,hsz]
   rfl
  ·have:=congrArg Yga e2
   simp only [Yj,Zzk,Yha] at this
   have hp:0<(Zhc 10 v).length:=by unfold Zhc;split <;> simp
   omega
  ·rw [hsz,← Yea,hB]
   exact e2
 ·right
  exact ⟨_,h,by rw [if_neg h]⟩
theorem Zr8:∀(f i u v:Nat) (l:Str),i+f=10→i≤9→v<128^f→u+v*128^i<18446744073709551616→(0<i→v≠0)→gn f i u (Zlb (Zhc f v)++l)=(unz (u+v*128^i),i+(Zhc f v).length,0)
 | 0,i,u,v,l,hf,h9,_,_,_=>by omega
 | f+1,i,u,v,l,hf,hi9,hv,hb,hz=>by
  have h9':i=9→v≤1:=fun h=>by subst h;simp at hb;omega
  by_cases h128:128≤v
  ·have hi8:i≤8:=by
    by_cases h:i=9
    ·have:=h9' h;omega
    ·omega
   have hg:Zhc (f+1) v=((v%128+128:Nat):Int)::Zhc f (v/128):=by simp only [Zhc,if_pos h128]
   have ht:(UInt8.ofNat (((v%128+128:Nat):Int)).toNat).toNat=v%128+128:=by
    rw [Yd,UInt8.toNat_ofNat']
    omega
   rw [hg]
   show gn (f+1) i u (UInt8.ofNat (((v%128+128:Nat):Int)).toNat::(Zlb (Zhc f (v/128))++l))=_
   simp only [gn]
   rw [ht,if_neg (by omega),if_pos (by omega)]
   have hs:u+(v%128+128)%128*128^i+v/128*128^(i+1)=u+v*128^i:=by
    have e:(v%128+128)%128=v%128:=by omega
    have e2:v%128*128^i+v/128*(128*128^i)=v*128^i:=by
     rw [← Ypa,← Nat.add_mul]
     congr 1
     omega
    rw [e,Yp,Yv (128^i) 128,Y5,e2]
   rw [Zr8 f (i+1) _ (v/128) l (by omega) (by omega) (by rw [Yp] at hv;exact Yna (by rw [Yv];exact hv)) (by rw [hs];exact hb) (fun _=>by omega),hs]
   simp only [Yz,Prod.mk.injEq,and_true,true_and]
   omega
  ·have hg:Zhc (f+1) v=[(v:Int)]:=by simp only [Zhc,if_neg h128]
   have ht:(UInt8.ofNat ((v:Int)).toNat).toNat=v:=by
    rw [Yd,UInt8.toNat_ofNat']
    omega
   rw [hg]
   show gn (f+1) i u (UInt8.ofNat ((v:Int)).toNat::l)=_
   simp only [gn]
   rw [ht,if_neg (fun q=>by have:=h9' q.1;omega),if_neg h128,if_neg (fun q=>hz q.2 q.1),Yf (by omega)]
   rfl
theorem Zmu (n:Int) (h:Num n) (s:Str) (a:Nat) (t:Str) (hs:s.drop a=Zm n++t):Z8c s a=(n,((a+(Zm n).length:Nat):Int),0):=by
 unfold Z8c
 have hz:=Zv5 h
 rw [hs]
 unfold Zm
 rw [Zr8 10 0 0 (zig n) t rfl (by omega) (by omega) (by omega) (fun q=>absurd q (by omega))]
 simp only [Yra,Nat.mul_one,Yq,Zpnb,Zzk]
 rfl
def Z7g (s:Str) (a:Nat):Str×Int×Int:=
 if (Z8c s a).2.2=0 then
  if 0≤(Z8c s a).1∧(Z8c s a).1≤8000 then
   if (Z8c s a).1 > (s.length:Int)-(Z8c s a).2.1 then ([],0,4)
   else ((s.take ((Z8c s a).2.1+(Z8c s a).1).toNat).drop (Z8c s a).2.1.toNat,(Z8c s a).2.1+(Z8c s a).1,0)
  else ([],0,3)
 else ([],0,(Z8c s a).2.2)
structure GotT (s:Str) (a:Nat) (t:Str) (a':Nat):Prop where
 at':a'=a+(Z3b t).length
 le:a'≤s.length
 eq:s.drop a=Z3b t++s.drop a'
 size:t.length≤8000
theorem Zzp (s:Str) (a:Nat):(∃t a',Z7g s a=(t,((a':Nat):Int),0)∧GotT s a t a')∨∃c,c≠0∧Z7g s a=([],0,c):=by
 unfold Z7g
 rcases Zdk s a with ⟨n,a',e,g⟩ | ⟨c,hc,e⟩
 ·rw [e]
  simp only [if_true]
  by_cases hn:0≤n∧n≤8000
  ·rw [if_pos hn]
   have hle:=g.le
   by_cases hs:n > (s.length:Int)-(a':Int)
   ·rw [if_pos hs]
    exact .inr ⟨4,by omega,rfl⟩
   ·rw [if_neg hs]
    obtain ⟨m,rfl⟩:∃m:Nat,n=(m:Int):=⟨n.toNat,by omega⟩
    have e1:((a':Int)+(m:Int)).toNat=a'+m:=by omega
    rw [e1,Yd]
    have hB:(s.take (a'+m)).drop a'=(s.drop a').take m:=by
     rw [List.drop_take,Nat.add_sub_cancel_left]
    have hsz:((s.take (a'+m)).drop a').length=m:=by
     rw [hB,List.length_take,Yha]
     omega
    refine .inl ⟨_,a'+m,by push_cast;rfl,?_,?_,?_,?_⟩
    ·unfold Z3b
     rw [Yj,hsz]
     have:=g.at'
     omega
    ·omega
    ·unfold Z3b
     rw [hsz,hB,g.eq,Yn,← Yea,Yja]
    ·rw [hsz];omega
  ·rw [if_neg hn]
   exact .inr ⟨3,by omega,rfl⟩
 ·rw [e]
  simp only
  rw [if_neg hc]
  exact .inr ⟨c,hc,rfl⟩
def Zfb (s:Str) (a:Nat):Int×Str×Int×Bool:=if (Z8c s a).2.2=0 then ((Z8c s a).1,s,(Z8c s a).2.1,false) else (0,s,(a:Int),true)
theorem Zrs (s:Str) (a:Nat):(∃n a',Zfb s a=(n,s,((a':Nat):Int),false)∧Got s a n a')∨Zfb s a=(0,s,(a:Int),true):=by
 unfold Zfb
 rcases Zdk s a with ⟨n,a',e,g⟩ | ⟨c,hc,e⟩
 ·left;exact ⟨n,a',by rw [e];rfl,g⟩
 ·right;rw [e,if_neg hc]
def Zsf (s:Str) (a:Nat):Str×Str×Int×Bool:=if (Z7g s a).2.2=0 then ((Z7g s a).1,s,(Z7g s a).2.1,false) else ([],s,(a:Int),true)
theorem Zhdb (s:Str) (a:Nat):(∃t a',Zsf s a=(t,s,((a':Nat):Int),false)∧GotT s a t a')∨Zsf s a=([],s,(a:Int),true):=by
 unfold Zsf
 rcases Zzp s a with ⟨n,a',e,g⟩ | ⟨c,hc,e⟩
 ·left;exact ⟨n,a',by rw [e];rfl,g⟩
 ·right;rw [e,if_neg hc]
end Go.Proofs.Qz
namespace Go.Proofs.Qz
open Go
set_option linter.unusedVariables false
theorem Zyh (a b:Int):(a==b)=decide (a=b):=by rw [Yba];simp
theorem Zx8 (r:Nat):shr .u32 (r:Int) 1=((r/2:Nat):Int):=Z8h .u32 r 1 (by decide)
theorem sl0:∀(n r j:Nat),n≤8→r<4294967296→n<j→Z6b.l0 j (r:Int) ((8-n:Nat):Int)=some ((Ziq n r:Nat):Int)
 | n,r,0,_,_,h=>absurd h (Yl n)
 | 0,r,j+1,_,_,_=>by
  unfold Z6b.l0
  rfl
 | n+1,r,j+1,hn,hr,hj=>by
  have e:Yb .i64 (((8-(n+1):Nat):Int)+1)=((8-n:Nat):Int):=by rw [w64] <;> omega
  unfold Z6b.l0
  rw [decide_eq_true (by omega:(((8-(n+1):Nat):Int))<8),Zq6 _ hr,Zx8,e,Zzc (by omega),Zyh]
  simp only [cond_true,Yc]
  by_cases hp:r%2=1
  ·rw [decide_eq_true (by omega:((r%2:Nat):Int)=1),show (3988292384:Int)=((3988292384:Nat):Int) from rfl,Zwn _ _ (by omega) (by omega)]
   have e2:Z6j r=r/2 ^^^ 3988292384:=by unfold Z6j;rw [if_pos hp]
   rw [cond_true,← e2]
   exact sl0 n (Z6j r) j (by omega) (Z9t hr) (by omega)
  ·rw [decide_eq_false (by omega:¬(((r%2:Nat):Int)=1))]
   have e2:Z6j r=r/2:=by unfold Z6j;rw [if_neg hp]
   rw [cond_false,← e2]
   exact sl0 n (Z6j r) j (by omega) (Z9t hr) (by omega)
theorem sl1 (x:Str) (hx:x.length≤140737488351232) (k:Nat) (hk:9≤k):∀(d i r j:Nat),x.length-i=d→i≤x.length→r<4294967296→d<j→Z6b.l1 k j x (r:Int) (i:Int)=some ((Zjq (x.drop i) r:Nat):Int)
 | d,i,r,0,_,_,_,h=>absurd h (Yl d)
 | 0,i,r,j+1,hd,hi,hr,_=>by
  unfold Z6b.l1
  rw [decide_eq_false (by omega:¬((i:Int)<(x.length:Int))),Y2 (by omega)]
  rfl
 | d+1,i,r,j+1,hd,hi,hr,hj=>by
  have hlt:i<x.length:=by omega
  have hc:=Zyn x[i]
  unfold Z6b.l1
  rw [decide_eq_true (by omega:(i:Int)<(x.length:Int)),Zi hlt]
  simp only [cond_true,Yc]
  have hxr:=x32 hr (show x[i].toNat<4294967296 by omega)
  rw [Zir,show (((x[i].toNat:Nat):Int)%4294967296)=((x[i].toNat:Nat):Int) by omega,Zwn _ _ hr (by omega),Zn (by omega)]
  have h8:=sl0 8 (r ^^^ x[i].toNat) k (Yu _) hxr (by omega)
  have h8:Z6b.l0 k ((r ^^^ x[i].toNat:Nat):Int) 0=some ((Ziq 8 (r ^^^ x[i].toNat):Nat):Int):=h8
  rw [h8,Yo hlt]
  simp only [Yc]
  exact sl1 x hx k hk d (i+1) _ j (by omega) (by omega) (Z0w 8 hxr) (by omega)
theorem sCrc (c:Nat) (s:Str) (hc:c<4294967296) (hs:s.length≤140737488351232):Ze fun k=>Z6b k (c:Int) s=some ((Zeg c s:Nat):Int):=by
 refine Ze.ge (s.length+9) fun k hk=>?_
 have h:=sl1 s hs k (by omega) s.length 0 (c ^^^ 4294967295) k (by omega) (by omega) (x32 hc (by omega)) (by omega)
 have h:Z6b.l1 k k s ((c ^^^ 4294967295:Nat):Int) 0=some ((Zjq s (c ^^^ 4294967295):Nat):Int):=h
 unfold Z6b
 rw [Zir,show ((c:Int)%4294967296)=(c:Int) by omega,show (4294967295:Int)=((4294967295:Nat):Int) from rfl,Zwn _ _ hc (by omega),h]
 simp only [Yc]
 have hl:=Zd1 s (x32 hc (show 4294967295<4294967296 by omega))
 have hl2:=x32 hl (show 4294967295<4294967296 by omega)
 rw [Zwn _ _ hl (by omega),w64 (by omega) (by omega)]
 rfl
theorem il0 (x:Str) (i:Nat) (hi:i<x.length):∀(n s r j:Nat),n≤8→s<4294967296→r=s ^^^ (x[i].toNat/2^(8-n))→n<j→Zcc.l0 j x (r:Int) (i:Int) ((8-n:Nat):Int)=some ((Ziq n s:Nat):Int)
 | n,s,r,0,_,_,_,h=>absurd h (Yl n)
 | 0,s,r,j+1,_,_,hr,_=>by
  have hc:=Zyn x[i]
  have:x[i].toNat/2^(8-0)=0:=Nat.div_eq_of_lt (by simpa using hc)
  rw [this,Yua] at hr
  subst hr
  unfold Zcc.l0
  rfl
 | n+1,s,r,j+1,hn,hs,hr,hj=>by
  have hc:=Zyn x[i]
  have e:Yb .i64 (((8-(n+1):Nat):Int)+1)=((8-n:Nat):Int):=by rw [w64] <;> omega
  have ih:=il0 x i hi n (Z6j s)
  unfold Zcc.l0
  rw [decide_eq_true (by omega:(((8-(n+1):Nat):Int))<8),Zi hi]
  simp only [cond_true,Yc]
  generalize x[i].toNat=c at hc hr ih ⊢
  have hcd:c/2^(8-(n+1))<256:=Nat.lt_of_le_of_lt (Nat.div_le_self _ _) hc
  have hrl:r<4294967296:=by rw [hr];exact x32 hs (by omega)
  have hsr:r ^^^ (c/2^(8-(n+1)))=s:=by rw [hr,Y0,Nat.xor_self,Yua]
  have hhalf:r/2=s/2 ^^^ (c/2^(8-n)):=by
   have e1:c/2^(8-n)=(c/2^(8-(n+1)))/2:=by rw [Nat.div_div_eq_div_mul,← Yp];congr 2;omega
   rw [hr,e1]
   have:=@Nat.shiftRight_xor_distrib 1 s (c/2^(8-(n+1)))
   simpa [Nat.shiftRight_eq_div_pow] using this
  rw [Zir,show ((c:Int)%4294967296)=(c:Int) by omega,Z8h .u32 c (8-(n+1)) (by show 8-(n+1)≤32;omega),Zwn _ _ hrl (by omega),hsr,Zq6 _ hs,Zx8,e,Zzc (by omega),Zzc (by omega),Zyh]
  simp only [Yc]
  by_cases hp:s%2=1
  ·rw [decide_eq_true (by omega:((s%2:Nat):Int)=1),show (3988292384:Int)=((3988292384:Nat):Int) from rfl,Zwn _ _ (by omega) (by omega),cond_true]
   refine ih _ j (by omega) (Z9t hs) ?_ (by omega)
   unfold Z6j
   rw [if_pos hp,hhalf,Y0,Y0,Y8 (c/2^(8-n))]
  ·rw [decide_eq_false (by omega:¬(((s%2:Nat):Int)=1)),cond_false]
   refine ih _ j (by omega) (Z9t hs) ?_ (by omega)
   unfold Z6j
   rw [if_neg hp,hhalf]
theorem il1 (x:Str) (hx:x.length≤140737488351232) (k:Nat) (hk:9≤k):∀(d i r j:Nat),x.length-i=d→i≤x.length→r<4294967296→d<j→Zcc.l1 k j x (r:Int) (x.length:Int) (i:Int)=some ((Zjq (x.drop i) r:Nat):Int)
 | d,i,r,0,_,_,_,h=>absurd h (Yl d)
 | 0,i,r,j+1,hd,hi,hr,_=>by
  unfold Zcc.l1
  rw [decide_eq_false (by omega:¬((i:Int)<(x.length:Int))),Y2 (by omega)]
  rfl
 | d+1,i,r,j+1,hd,hi,hr,hj=>by
  have hlt:i<x.length:=by omega
  have hc:=Zyn x[i]
  unfold Zcc.l1
  rw [decide_eq_true (by omega:(i:Int)<(x.length:Int))]
  have hxr:=x32 hr (show x[i].toNat<4294967296 by omega)
  have h8:=il0 x i hlt 8 (r ^^^ x[i].toNat) r k (Yu _) hxr (by simp [Y0]) (by omega)
  have h8:Zcc.l0 k x (r:Int) (i:Int) 0=some ((Ziq 8 (r ^^^ x[i].toNat):Nat):Int):=h8
  rw [h8,Yo hlt]
  simp only [cond_true,Yc]
  rw [Zn (by omega)]
  exact il1 x hx k hk d (i+1) _ j (by omega) (by omega) (Z0w 8 hxr) (by omega)
theorem iCrc (c:Nat) (s:Str) (hc:c<4294967296) (hs:s.length≤140737488351232):Ze fun k=>Zcc k (c:Int) s=some ((Zeg c s:Nat):Int):=by
 refine Ze.ge (s.length+9) fun k hk=>?_
 have h:=il1 s hs k (by omega) s.length 0 (c ^^^ 4294967295) k (by omega) (by omega) (x32 hc (by omega)) (by omega)
 have h:Zcc.l1 k k s ((c ^^^ 4294967295:Nat):Int) (s.length:Int) 0=some ((Zjq s (c ^^^ 4294967295):Nat):Int):=h
 unfold Zcc
 rw [show (IntKind.max .u32:Int)=((4294967295:Nat):Int) from rfl,Zwn _ _ (by omega) hc,Y8,h]
 simp only [Yc]
 have hl:=Zd1 s (x32 hc (show 4294967295<4294967296 by omega))
 rw [Zwn _ _ (by omega) hl,Y8]
 rfl
theorem Z4bb (n:Nat):Zgm (n:Int)=some (Zas n):=by
 unfold Zgm Zas
 have h8:=Z8h .i64 n 8 (by decide)
 have h16:=Z8h .i64 n 16 (by decide)
 have h24:=Z8h .i64 n 24 (by decide)
 have h8:shr .i64 (n:Int) 8=((n/256:Nat):Int):=h8
 have h16:shr .i64 (n:Int) 16=((n/65536:Nat):Int):=h16
 have h24:shr .i64 (n:Int) 24=((n/16777216:Nat):Int):=h24
 rw [Zzc (by omega),Zzc (by omega),Zzc (by omega)]
 simp only [Yc]
 rw [h8,h16,h24,u8w,u8w,u8w,u8w]
 rfl
theorem Zu4 (s:Str) (hs:s.length≤7996):Ze fun k=>Zjk k s=some (Zdh s):=by
 refine (sCrc 0 s (by omega) (by omega)).mono fun k h=>?_
 have h:Z6b k 0 s=some ((Zeg 0 s:Nat):Int):=h
 unfold Zjk
 rw [decide_eq_false (by omega:¬(7996<(s.length:Int))),h]
 simp only [cond_false,Yc]
 rw [Z4bb]
 simp only [Yc]
 rw [Zrc (by rw [Zfx];omega)]
 rfl
theorem Zox (s:Str) (hs:s.length≤140737488351232):Ze fun k=>Zwi k s=some (Zdh s):=by
 refine (iCrc 0 s (by omega) (by omega)).mono fun k h=>?_
 have h:Zcc k 0 s=some ((Zeg 0 s:Nat):Int):=h
 have h8:=Z8h .u32 (Zeg 0 s) 8 (by decide)
 have h16:=Z8h .u32 (Zeg 0 s) 16 (by decide)
 have h24:=Z8h .u32 (Zeg 0 s) 24 (by decide)
 have h8:shr .u32 ((Zeg 0 s:Nat):Int) 8=((Zeg 0 s/256:Nat):Int):=h8
 have h16:shr .u32 ((Zeg 0 s:Nat):Int) 16=((Zeg 0 s/65536:Nat):Int):=h16
 have h24:shr .u32 ((Zeg 0 s:Nat):Int) 24=((Zeg 0 s/16777216:Nat):Int):=h24
 unfold Zwi
 rw [h,Zzc (by omega),Zzc (by omega),Zzc (by omega)]
 simp only [Yc]
 rw [h8,h16,h24,u8w,u8w,u8w,u8w]
 have e:Zlb [((Zeg 0 s:Nat):Int)%256,((Zeg 0 s/256:Nat):Int)%256,((Zeg 0 s/65536:Nat):Int)%256,((Zeg 0 s/16777216:Nat):Int)%256]=Zas (Zeg 0 s):=rfl
 rw [e,Zrc (by rw [Zfx];omega)]
 rfl
theorem Z8p (s t:Str):(s==t)=decide (s=t):=by rw [Yba];simp
theorem Zds (s:Str) (hs:s.length≤140737488351232):Ze fun k=>Zak k s=some (Ztc s):=by
 refine (Zox (Zl s) (by rw [Zcq];omega)).mono fun k h=>?_
 unfold Zak Ztc
 by_cases h4:s.length<4
 ·rw [decide_eq_true (by omega:(s.length:Int)<4),if_pos h4]
  rfl
 ·rw [decide_eq_false (by omega:¬((s.length:Int)<4)),if_neg h4,w64 (by omega) (by omega),show ((s.length:Int)-4)=((s.length-4:Nat):Int) by omega]
  have hc:=Znh (l:=s) (i:=0) (j:=s.length-4) (by omega) (by omega)
  have hc:Z8b s 0 ((s.length-4:Nat):Int)=some (Zl s):=hc
  rw [hc]
  simp only [cond_false,Yc]
  rw [h]
  simp only [Yc,Z8p]
  by_cases he:Zdh (Zl s)=s
  ·rw [if_pos he,decide_eq_true he];rfl
  ·rw [if_neg he,decide_eq_false he];rfl
theorem Z6k (s:Str) (hs:s.length≤8000):Ze fun k=>Zkk k s=some ((Ztc s).1,0,(Ztc s).2):=by
 refine (sCrc 0 (Zl s) (by omega) (by rw [Zcq];omega)).mono fun k h=>?_
 have h:Z6b k 0 (Zl s)=some ((Zeg 0 (Zl s):Nat):Int):=h
 unfold Zkk Ztc
 rw [decide_eq_false (by omega:¬(8000<(s.length:Int)))]
 by_cases h4:s.length<4
 ·rw [decide_eq_true (by omega:(s.length:Int)<4),if_pos h4]
  rfl
 ·rw [decide_eq_false (by omega:¬((s.length:Int)<4)),if_neg h4,w64 (by omega) (by omega),show ((s.length:Int)-4)=((s.length-4:Nat):Int) by omega]
  have hc:=Znh (l:=s) (i:=0) (j:=s.length-4) (by omega) (by omega)
  have hc:Z8b s 0 ((s.length-4:Nat):Int)=some (Zl s):=hc
  have hd:=Znh (l:=s) (i:=s.length-4) (j:=s.length) (by omega) (by omega)
  rw [Yka] at hd
  simp only [cond_false]
  rw [hc]
  simp only [cond_false,Yc]
  rw [h]
  simp only [Yc]
  rw [Z4bb,hd]
  simp only [Yc,Z8p]
  by_cases he:Zdh (Zl s)=s
  ·rw [if_pos he,decide_eq_true ((Zcdb s).2 he)];rfl
  ·rw [if_neg he,decide_eq_false (fun q=>he ((Zcdb s).1 q))];rfl
end Go.Proofs.Qz
namespace Go.Proofs.Qz
open Go
set_option linter.unusedVariables false
theorem Ztlb (n:Int) (h:Num n):Zrp n=some ((zig n:Nat):Int):=by
 unfold Num at h
 unfold Zrp zig
 simp only [Z3g]
 by_cases hn:n<0
 ·rw [decide_eq_true hn,if_pos hn,w64 (n:=n+1) (by omega) (by omega),w64 (by omega) (by omega)]
  rw [cond_true]
  congr 1
  omega
 ·rw [decide_eq_false hn,if_neg hn,cond_false]
  congr 1
  omega
theorem sput:∀(f u:Nat) (acc:List Int) (j:Nat),u<128^f→u<18446744073709551616→acc.length+f≤100→0<f→f<j+1→∃p:Int×List Int,Z5b.l0 j (u:Int) acc=some p∧p.2.length≤100∧p.2++[Yb .u8 p.1]=acc++Zhc f u
 | 0,_,_,_,_,_,_,h,_=>absurd h (by omega)
 | f+1,u,acc,0,hu,hb,hl,_,hj=>by omega
 | f+1,u,acc,j+1,hu,hb,hl,_,hj=>by
  unfold Z5b.l0
  by_cases h:128≤u
  ·have hf:0<f:=by
    rcases Nat.eq_zero_or_pos f with rfl | h'
    ·simp at hu;omega
    ·exact h'
   obtain ⟨p,e,e1,e2⟩:=sput f (u/128) (acc++[((u%128+128:Nat):Int)]) j (by rw [Yp] at hu;exact Yna (by rw [Yv];exact hu)) (by omega) (by simp;omega) hf (by omega)
   refine ⟨p,?_,e1,?_⟩
   ·rw [decide_eq_true (by omega:(128:Int)≤(u:Int)),Z9o (by omega:(128:Int)≠0)]
    simp only [cond_true,Yc]
    rw [Zab (by simp;omega),u8w,Z3g,Z3g,Y1 (by omega),Yda (by omega)]
    simp only [Yc]
    rw [show (((u:Int)/128)%18446744073709551616)=((u/128:Nat):Int) by omega,show ((((u:Int)%128+128)%18446744073709551616)%256)=((u%128+128:Nat):Int) by omega]
    exact e
   ·rw [e2,Yn]
    simp [Zhc,h]
  ·refine ⟨((u:Int),acc),?_,by show acc.length≤100;omega,?_⟩
   ·rw [decide_eq_false (by omega:¬((128:Int)≤(u:Int)))]
    rfl
   ·show acc++[Yb .u8 (u:Int)]=_
    rw [u8w,show ((u:Int)%256)=(u:Int) by omega]
    simp [Zhc,h]
theorem Zii (n:Int) (h:Num n):Ze fun k=>Z5b k n=some (Zm n):=by
 refine Ze.ge 10 fun k hk=>?_
 have hz:=Zv5 h
 obtain ⟨p,e,e1,e2⟩:=sput 10 (zig n) [] k (by omega) hz (by simp) (by omega) (by omega)
 unfold Z5b
 rw [Ztlb n h]
 simp only [Yc]
 rw [e]
 simp only [Yc]
 rw [Zab (by simp;omega),e2]
 rfl
theorem Z27 (s:Str) (j:Nat):(s.drop j=[]∧s.length≤j)∨∃h:j<s.length,s.drop j=s[j]::s.drop (j+1):=by
 by_cases h:j<s.length
 ·exact .inr ⟨h,Yo h⟩
 ·exact .inl ⟨Y2 (by omega),by omega⟩
theorem sgn (s:Str) (hs:s.length≤140737488351232) (a:Nat) (ha:a<9223372036854775000):∀(f i u j:Nat),i+f=10→i≤9→u<128^i→(0<i→a+i≤s.length)→f<j→Zfd.l0 j s (a:Int) (u:Int) (i:Int) 0 0 0=some (.inr (fin a (gn f i u (s.drop (a+i)))))
 | f,i,u,0,_,_,_,_,h=>absurd h (Yl f)
 | 0,i,u,j+1,hf,h9,hu,hz,_=>by omega
 | f+1,i,u,j+1,hf,hi9,hu,hz,hj=>by
  unfold Zfd.l0
  rw [decide_eq_true (by omega:(i:Int)<10),w64 (n:=(s.length:Int)-(i:Int)) (by omega) (by omega),cond_true]
  rcases Z27 s (a+i) with ⟨hd,hlen⟩ | ⟨hlt,hd⟩
  ·rw [decide_eq_true (by omega:(s.length:Int)-(i:Int)≤(a:Int)),hd]
   rfl
  ·rw [decide_eq_false (by omega:¬((s.length:Int)-(i:Int)≤(a:Int))),w64 (n:=(a:Int)+(i:Int)) (by omega) (by omega),show ((a:Int)+(i:Int))=((a+i:Nat):Int) by omega]
   simp only [cond_false]
   rw [Zi hlt,hd]
   simp only [Yc,gn]
   have hb:=Zyn s[a+i]
   have ih:=fun u'=>sgn s hs a ha f (i+1) u' j
   generalize s[a+i].toNat=b at hb ⊢
   rw [Z3g (b:Int),show ((b:Int)%18446744073709551616)=(b:Int) by omega,Zyh,Z9o (by omega:(128:Int)≠0)]
   by_cases h9:i=9∧1<b
   ·rw [decide_eq_true (by omega:(i:Int)=9),decide_eq_true (by omega:(1:Int)<(b:Int)),if_pos h9]
    rfl
   ·rw [if_neg h9,show (decide ((i:Int)=9)&&decide ((1:Int)<(b:Int)))=false by
     by_cases h:i=9
     ·rw [decide_eq_false (by omega:¬((1:Int)<(b:Int))),Yr]
     ·rw [decide_eq_false (by omega:¬((i:Int)=9))];rfl]
    have hb9:i=9→b≤1:=fun h=>by
     rcases Y6 1 b with h1 | h1
     ·exact absurd ⟨h,h1⟩ h9
     ·exact h1
    have hsl:=Zc5 (b:=b) (show i≤9 by omega) hu hb9
    have hv:Yb .u64 ((u:Int)+shl .u64 (Yx (b:Int) 128) (Yb .u64 (Yb .i64 (7*(i:Int)))))=((u+b%128*128^i:Nat):Int):=by
     rw [w64 (by omega) (by omega),Z3g (7*(i:Int)),show (7*(i:Int))%18446744073709551616=((7*i:Nat):Int) by omega,Y1 (by omega),show (b:Int)%128=((b%128:Nat):Int) by omega,Zvcb (by omega) hb9,Z3g]
     omega
    have hn:Zsb (Yb .u64 (Yb .i64 (7*(i:Int))))=some ():=Zzc (by rw [Z3g];omega)
    simp only [cond_false,Yc]
    rw [hn]
    simp only [Yc]
    rw [hv]
    by_cases h128:128≤b
    ·have hi8:i≤8:=by
      by_cases h:i=9
      ·have:=hb9 h;omega
      ·omega
     rw [decide_eq_false (by omega:¬((b:Int)<128)),if_pos h128,cond_false,Zn (by omega),show a+i+1=a+(i+1) by omega]
     exact ih _ (by omega) (by omega) (Zqz hi8 hu) (fun _=>by omega) (by omega)
    ·rw [decide_eq_true (by omega:((b:Int)<128)),if_neg h128,cond_true,Zyh]
     by_cases h0:b=0∧0<i
     ·rw [decide_eq_true (by omega:(b:Int)=0),decide_eq_true (by omega:(0:Int)<(i:Int)),if_pos h0]
      rfl
     ·rw [if_neg h0,show (decide ((b:Int)=0)&&decide ((0:Int)<(i:Int)))=false by
       by_cases h:b=0
       ·rw [decide_eq_false (by omega:¬((0:Int)<(i:Int))),Yr]
       ·rw [decide_eq_false (by omega:¬((b:Int)=0))];rfl]
      generalize u+b%128*128^i=v at hsl
      have e2:Yb .i64 (Yb .u64 (Int.tdiv (v:Int) 2))=((v/2:Nat):Int):=by
       rw [Yda (by omega),Z3g,w64 (by omega) (by omega)]
       omega
      rw [cond_false,Z9o (by omega:(2:Int)≠0)]
      simp only [Yc]
      rw [Zn (by omega),e2,Y1 (by omega),Zyh]
      unfold fin unz
      by_cases hp:v%2=1
      ·rw [decide_eq_true (by omega:(v:Int)%2=1),if_pos hp,w64 (n:=0-((v/2:Nat):Int)) (by omega) (by omega),w64 (by omega) (by omega),cond_true,show (0-((v/2:Nat):Int)-1) = -((v/2:Nat):Int)-1 by omega]
       rfl
      ·rw [decide_eq_false (by omega:¬((v:Int)%2=1)),if_neg hp]
       rfl
theorem ign (s:Str) (hs:s.length≤140737488351232) (a:Nat) (ha:a<9223372036854775000):∀(f i u j:Nat),i+f=10→i≤9→u<128^i→(0<i→a+i≤s.length)→f<j→Z0e.l0 j s (a:Int) (u:Int) (i:Int)=some (fin a (gn f i u (s.drop (a+i))))
 | f,i,u,0,_,_,_,_,h=>absurd h (Yl f)
 | 0,i,u,j+1,hf,h9,hu,hz,_=>by omega
 | f+1,i,u,j+1,hf,hi9,hu,hz,hj=>by
  unfold Z0e.l0
  rw [w64 (n:=(s.length:Int)-(i:Int)) (by omega) (by omega)]
  rcases Z27 s (a+i) with ⟨hd,hlen⟩ | ⟨hlt,hd⟩
  ·rw [decide_eq_true (by omega:(s.length:Int)-(i:Int)≤(a:Int)),hd]
   rfl
  ·rw [decide_eq_false (by omega:¬((s.length:Int)-(i:Int)≤(a:Int))),w64 (n:=(a:Int)+(i:Int)) (by omega) (by omega),show ((a:Int)+(i:Int))=((a+i:Nat):Int) by omega]
   simp only [cond_false]
   rw [Zi hlt,hd]
   simp only [Yc,gn]
   have hb:=Zyn s[a+i]
   have ih:=fun u'=>ign s hs a ha f (i+1) u' j
   generalize s[a+i].toNat=b at hb ⊢
   rw [Zyh]
   by_cases h9:i=9∧1<b
   ·rw [decide_eq_true (by omega:(i:Int)=9),decide_eq_true (by omega:(1:Int)<(b:Int)),if_pos h9]
    rfl
   ·rw [if_neg h9,show (decide ((i:Int)=9)&&decide ((1:Int)<(b:Int)))=false by
     by_cases h:i=9
     ·rw [decide_eq_false (by omega:¬((1:Int)<(b:Int))),Yr]
     ·rw [decide_eq_false (by omega:¬((i:Int)=9))];rfl]
    have hb9:i=9→b≤1:=fun h=>by
     rcases Y6 1 b with h1 | h1
     ·exact absurd ⟨h,h1⟩ h9
     ·exact h1
    have hsl:=Zc5 (b:=b) (show i≤9 by omega) hu hb9
    have hv:intBits .or .u64 (u:Int) (shl .u64 (Yb .u64 (intBits .and .u8 (b:Int) 127)) (Yb .i64 (7*(i:Int))))=((u+b%128*128^i:Nat):Int):=by
     rw [Zjeb b hb,Z3g,show ((b%128:Nat):Int)%18446744073709551616=((b%128:Nat):Int) by omega,w64 (by omega) (by omega),show (7*(i:Int))=((7*i:Nat):Int) by omega,Zvcb (by omega) hb9,Z0eb _ _ (by have:=Ztab (show i≤9 by omega);omega) (Zgdb (by omega) hb9),Zdkb hu]
    have hn:Zsb (Yb .i64 (7*(i:Int)))=some ():=Zzc (by rw [w64 (by omega) (by omega)];omega)
    simp only [cond_false,Yc]
    rw [hn]
    simp only [Yc]
    rw [hv]
    by_cases h128:128≤b
    ·have hi8:i≤8:=by
      by_cases h:i=9
      ·have:=hb9 h;omega
      ·omega
     rw [decide_eq_true (by omega:((127:Int)<(b:Int))),if_pos h128,cond_true,Zn (by omega),show a+i+1=a+(i+1) by omega]
     exact ih _ (by omega) (by omega) (Zqz hi8 hu) (fun _=>by omega) (by omega)
    ·rw [decide_eq_false (by omega:¬((127:Int)<(b:Int))),if_neg h128,cond_false,Zyh]
     by_cases h0:b=0∧0<i
     ·rw [decide_eq_true (by omega:(b:Int)=0),decide_eq_true (by omega:(0:Int)<(i:Int)),if_pos h0]
      rfl
     ·rw [if_neg h0,show (decide ((b:Int)=0)&&decide ((0:Int)<(i:Int)))=false by
       by_cases h:b=0
       ·rw [decide_eq_false (by omega:¬((0:Int)<(i:Int))),Yr]
       ·rw [decide_eq_false (by omega:¬((b:Int)=0))];rfl]
      generalize u+b%128*128^i=v at hsl
      have e2:shr .u64 (v:Int) 1=((v/2:Nat):Int):=Z8h .u64 v 1 (by decide)
      rw [cond_false,Zzc (by omega:(0:Int)≤1)]
      simp only [Yc]
      rw [Zn (by omega),e2,Zveb v hsl,w64 (n:=((v/2:Nat):Int)) (by omega) (by omega),Zyh]
      unfold fin unz
      by_cases hp:v%2=1
      ·rw [decide_eq_true (by omega:((v%2:Nat):Int)=1),if_pos hp,Z6jb _ (by omega)]
       rfl
      ·rw [decide_eq_false (by omega:¬(((v%2:Nat):Int)=1)),if_neg hp]
       rfl
section
variable (s:Str) (a:Nat) (ha:a<9223372036854775000)
include ha
theorem Zkx (hs:s.length≤140737488351232):Ze fun k=>Z0e k s (a:Int)=some (Z8c s a):=by
 refine Ze.ge 11 fun k hk=>?_
 have h:=ign s hs a ha 10 0 0 k rfl (by omega) (by omega) (fun h=>absurd h (by omega)) (by omega)
 have h:Z0e.l0 k s (a:Int) 0 0=some (Z8c s a):=h
 unfold Z0e
 rw [decide_eq_false (by omega:¬((a:Int)<0)),h]
 rfl
theorem Z9s (hs:s.length≤8000):Ze fun k=>Zfd k s (a:Int)=some (Z8c s a):=by
 refine Ze.ge 11 fun k hk=>?_
 have h:=sgn s (by omega) a ha 10 0 0 k rfl (by omega) (by omega) (fun h=>absurd h (by omega)) (by omega)
 have h:Zfd.l0 k s (a:Int) 0 0 0 0 0=some (.inr (Z8c s a)):=h
 unfold Zfd
 rw [decide_eq_false (by omega:¬(8000<(s.length:Int))),decide_eq_false (by omega:¬((a:Int)<0)),h]
 rfl
theorem Zh2 (hs:s.length≤140737488351232):Ze fun k=>Zec k (s,((a:Int),false))=some (Zfb s a):=by
 refine (Zkx s a ha hs).mono fun k h=>?_
 unfold Zec Zfb
 rw [h]
 rcases Zdk s a with ⟨n,a',e,g⟩ | ⟨c,hc,e⟩
 ·rw [e];rfl
 ·rw [e,if_neg hc]
  simp only [Yc]
  rw [show (c != 0)=true by simpa using hc]
  rfl
theorem Zat (hs:s.length≤8000):Ze fun k=>Zbc k (s,((a:Int),false))=some (Zfb s a):=by
 refine (Z9s s a ha hs).mono fun k h=>?_
 unfold Zbc Zfb
 rw [h]
 rcases Zdk s a with ⟨n,a',e,g⟩ | ⟨c,hc,e⟩
 ·rw [e];rfl
 ·rw [e,if_neg hc]
  simp only [Yc]
  rw [show (c != 0)=true by simpa using hc]
  rfl
theorem Zt4 (hs:s.length≤8000):Ze fun k=>Zbc k (s,((a:Int),true))=some (0,s,(a:Int),true):=by
 refine (Z9s s a ha hs).mono fun k h=>?_
 unfold Zbc
 rw [h]
 rfl
theorem Zaib (hs:s.length≤140737488351232):∃(n:Int) (a':Nat),(Ze fun k=>Zec k (s,((a:Int),true))=some (n,s,(a':Int),true))∧a'≤max a s.length:=by
 rcases Zdk s a with ⟨n,a',e,g⟩ | ⟨c,hc,e⟩
 ·refine ⟨n,a',(Zkx s a ha hs).mono fun k h=>?_,?_⟩
  ·unfold Zec
   rw [h,e]
   rfl
  ·have:=g.le;omega
 ·refine ⟨0,a,(Zkx s a ha hs).mono fun k h=>?_,by omega⟩
  unfold Zec
  rw [h,e]
  simp only [Yc]
  rw [show (c != 0)=true by simpa using hc]
  rfl
end
end Go.Proofs.Qz
namespace Go.Proofs.Qz
open Go
set_option linter.unusedVariables false
theorem Zdz (s:Str) (h:s.length≤8000):Ze fun k=>Zji k s=some (Z3b s):=by
 refine (Zii (s.length:Int) ⟨by omega,by omega⟩).mono fun k hk=>?_
 have:=Znc (s.length:Int)
 unfold Zji
 rw [decide_eq_false (by omega:¬(8000<(s.length:Int))),hk]
 simp only [cond_false,Yc]
 rw [Zrc (by omega)]
 rfl
section
variable (s:Str) (a:Nat) (ha:a<9223372036854775000)
include ha
theorem Zqv (hs:s.length≤8000):Ze fun k=>Z7k k s (a:Int)=some (Z7g s a):=by
 refine (Z9s s a ha hs).mono fun k h=>?_
 unfold Z7k Z7g
 rw [h]
 rcases Zdk s a with ⟨n,a',e,g⟩ | ⟨c,hc,e⟩
 ·rw [e]
  simp only [if_true,Yc]
  have hle:=g.le
  rw [show ((0:Int) != 0)=false from rfl,cond_false]
  by_cases hn:0≤n∧n≤8000
  ·rw [decide_eq_false (by omega:¬(n<0)),decide_eq_false (by omega:¬(8000<n)),if_pos hn,w64 (n:=(s.length:Int)-n) (by omega) (by omega),w64 (n:=(a':Int)+n) (by omega) (by omega)]
   by_cases hq:n > (s.length:Int)-(a':Int)
   ·rw [decide_eq_true (by omega:(s.length:Int)-n<(a':Int)),if_pos hq]
    rfl
   ·rw [decide_eq_false (by omega:¬((s.length:Int)-n<(a':Int))),if_neg hq]
    obtain ⟨m,rfl⟩:∃m:Nat,n=(m:Int):=⟨n.toNat,by omega⟩
    rw [show ((a':Int)+(m:Int))=((a'+m:Nat):Int) by omega]
    have hc:=Znh (l:=s) (i:=a') (j:=a'+m) (by omega) (by omega)
    simp only [Bool.or_false,cond_false]
    rw [hc]
    rfl
  ·rw [if_neg hn,show (decide (n<0)||decide (8000<n))=true by
    by_cases h0:n<0
    ·rw [decide_eq_true h0];rfl
    ·rw [decide_eq_true (by omega:8000<n),Bool.or_true]]
   rfl
 ·rw [e]
  simp only [Yc]
  rw [if_neg hc,show (c != 0)=true by simpa using hc]
  rfl
theorem Zd2 (hs:s.length≤140737488351232):Ze fun k=>Zeo k s (a:Int)=some (Z7g s a):=by
 refine (Zkx s a ha hs).mono fun k h=>?_
 unfold Zeo Z7g
 rw [h]
 rcases Zdk s a with ⟨n,a',e,g⟩ | ⟨c,hc,e⟩
 ·rw [e]
  simp only [if_true,Yc]
  have hle:=g.le
  rw [show ((0:Int) != 0)=false from rfl,cond_false]
  unfold Zeb
  simp only [Yc]
  by_cases hn:0≤n∧n≤8000
  ·rw [decide_eq_true (by omega:0≤n),decide_eq_true (by omega:n≤8000),if_pos hn,w64 (n:=(s.length:Int)-(a':Int)) (by omega) (by omega),w64 (n:=(a':Int)+n) (by omega) (by omega)]
   by_cases hq:n > (s.length:Int)-(a':Int)
   ·rw [decide_eq_true (by omega:(s.length:Int)-(a':Int)<n),if_pos hq]
    rfl
   ·rw [decide_eq_false (by omega:¬((s.length:Int)-(a':Int)<n)),if_neg hq]
    obtain ⟨m,rfl⟩:∃m:Nat,n=(m:Int):=⟨n.toNat,by omega⟩
    rw [show ((a':Int)+(m:Int))=((a'+m:Nat):Int) by omega]
    have hc:=Znh (l:=s) (i:=a') (j:=a'+m) (by omega) (by omega)
    simp only [Bool.and_true,Yca,cond_false]
    rw [hc]
    rfl
  ·rw [if_neg hn,show (decide (0≤n)&&decide (n≤8000))=false by
    by_cases h0:0≤n
    ·rw [decide_eq_false (by omega:¬(n≤8000)),Yr]
    ·rw [decide_eq_false h0];rfl]
   rfl
 ·rw [e]
  simp only [Yc]
  rw [if_neg hc,show (c != 0)=true by simpa using hc]
  rfl
theorem Z98 (hs:s.length≤140737488351232):Ze fun k=>Zig k (s,((a:Int),false))=some (Zsf s a):=by
 refine (Zd2 s a ha hs).mono fun k h=>?_
 unfold Zig Zsf
 rw [h]
 rcases Zzp s a with ⟨n,a',e,g⟩ | ⟨c,hc,e⟩
 ·rw [e];rfl
 ·rw [e,if_neg hc]
  simp only [Yc]
  rw [show (c != 0)=true by simpa using hc]
  rfl
theorem Zlcb (hs:s.length≤8000):Ze fun k=>Zfh k (s,((a:Int),false))=some (Zsf s a):=by
 refine (Zqv s a ha hs).mono fun k h=>?_
 unfold Zfh Zsf
 rw [h]
 rcases Zzp s a with ⟨n,a',e,g⟩ | ⟨c,hc,e⟩
 ·rw [e];rfl
 ·rw [e,if_neg hc]
  simp only [Yc]
  rw [show (c != 0)=true by simpa using hc]
  rfl
theorem Zgz (hs:s.length≤8000):Ze fun k=>Zfh k (s,((a:Int),true))=some ([],s,(a:Int),true):=by
 refine (Zqv s a ha hs).mono fun k h=>?_
 unfold Zfh
 rw [h]
 rfl
theorem Za9 (hs:s.length≤140737488351232):∃(t:Str) (a':Nat),(Ze fun k=>Zig k (s,((a:Int),true))=some (t,s,(a':Int),true))∧a'≤max a s.length:=by
 rcases Zzp s a with ⟨n,a',e,g⟩ | ⟨c,hc,e⟩
 ·refine ⟨n,a',(Zd2 s a ha hs).mono fun k h=>?_,?_⟩
  ·unfold Zig
   rw [h,e]
   rfl
  ·have:=g.le;omega
 ·refine ⟨[],a,(Zd2 s a ha hs).mono fun k h=>?_,by omega⟩
  unfold Zig
  rw [h,e]
  simp only [Yc]
  rw [show (c != 0)=true by simpa using hc]
  rfl
end
end Go.Proofs.Qz
namespace Go.Proofs.Qz
open Go
set_option linter.unusedVariables false
def Z1i (s:Str):Option (Int×Int×Int×Str×Nat):=
 if (Zfb s 0).2.2.2=true then none else
 if (Zfb s (Zfb s 0).2.2.1.toNat).2.2.2=true then none else
 if (Zfb s (Zfb s (Zfb s 0).2.2.1.toNat).2.2.1.toNat).2.2.2=true then none else
 if (Zsf s (Zfb s (Zfb s (Zfb s 0).2.2.1.toNat).2.2.1.toNat).2.2.1.toNat).2.2.2=true then none else
 some ((Zfb s 0).1,(Zfb s (Zfb s 0).2.2.1.toNat).1,(Zfb s (Zfb s (Zfb s 0).2.2.1.toNat).2.2.1.toNat).1,(Zsf s (Zfb s (Zfb s (Zfb s 0).2.2.1.toNat).2.2.1.toNat).2.2.1.toNat).1,(Zsf s (Zfb s (Zfb s (Zfb s 0).2.2.1.toNat).2.2.1.toNat).2.2.1.toNat).2.2.1.toNat)
theorem Z91 {s:Str} {x y z:Int} {t:Str} {a b c d:Nat} (g1:Got s 0 x a) (g2:Got s a y b) (g3:Got s b z c) (g4:GotT s c t d):Zm x++Zm y++Zm z++Z3b t=s ↔ d=s.length:=by
 have e1:=g1.eq
 have e2:=g2.eq
 have e3:=g3.eq
 have e4:=g4.eq
 rw [Y4] at e1
 constructor
 ·intro h
  have h1:=congrArg Yga h
  rw [Yj,Yj,Yj] at h1
  have:=g1.at';have:=g2.at';have:=g3.at';have:=g4.at'
  omega
 ·rintro rfl
  rw [List.drop_of_length_le (l:=s) (i:=s.length) (Yu _),List.append_nil] at e4
  rw [← e4,Yn,← e3,Yn,← e2,← e1]
theorem Zzab {s:Str} {x y z:Int} {t:Str} {d:Nat} (h:Z1i s=some (x,y,z,t,d)):∃a b c,Got s 0 x a∧Got s a y b∧Got s b z c∧GotT s c t d:=by
 unfold Z1i at h
 rcases Zrs s 0 with ⟨x',a,e1,g1⟩ | e1
 ·rw [e1] at h
  simp only [Yd,Yw,if_false] at h
  rcases Zrs s a with ⟨y',b,e2,g2⟩ | e2
  ·rw [e2] at h
   simp only [Yd,Yw,if_false] at h
   rcases Zrs s b with ⟨z',c,e3,g3⟩ | e3
   ·rw [e3] at h
    simp only [Yd,Yw,if_false] at h
    rcases Zhdb s c with ⟨t',d',e4,g4⟩ | e4
    ·rw [e4] at h
     simp only [Yd,Yw,if_false,Option.some.injEq,Prod.mk.injEq] at h
     obtain ⟨rfl,rfl,rfl,rfl,rfl⟩:=h
     exact ⟨a,b,c,g1,g2,g3,g4⟩
    ·rw [e4] at h;simp at h
   ·rw [e3] at h;simp at h
  ·rw [e2] at h;simp at h
 ·rw [e1] at h;simp at h
def Z6db (k:Nat) (s:Str):Prop:=∃v3 v4 v5:Int×Str×Int×Bool,∃v6:Str×Str×Int×Bool,Zbc k (s,(0,false))=some v3∧Zbc k v3.2=some v4∧Zbc k v4.2=some v5∧Zfh k v5.2=some v6 ∧
 ((∃x y z t d,Z1i s=some (x,y,z,t,d)∧v3.1=x∧v4.1=y∧v5.1=z∧v6=(t,s,((d:Nat):Int),false))∨(Z1i s=none∧v6.2.2.2=true))
theorem Zdbb (s:Str) (hs:s.length≤8000):Ze fun k=>Z6db k s:=by
 have f0:=Zat s 0 (by omega) hs
 rcases Zrs s 0 with ⟨x,a,e1,g1⟩ | e1
 ·have l1:=g1.le
  have f1:=Zat s a (by omega) hs
  rcases Zrs s a with ⟨y,b,e2,g2⟩ | e2
  ·have l2:=g2.le
   have f2:=Zat s b (by omega) hs
   rcases Zrs s b with ⟨z,c,e3,g3⟩ | e3
   ·have l3:=g3.le
    have f3:=Zlcb s c (by omega) hs
    refine (((f0.and f1).and f2).and f3).mono fun k ⟨⟨⟨h0,h1⟩,h2⟩,h3⟩=>⟨Zfb s 0,Zfb s a,Zfb s b,Zsf s c,h0,?_,?_,?_,?_⟩
    ·rw [e1];exact h1
    ·rw [e2];exact h2
    ·rw [e3];exact h3
    ·rcases Zhdb s c with ⟨t,d,e4,g4⟩ | e4
     ·refine .inl ⟨x,y,z,t,d,?_,by rw [e1],by rw [e2],by rw [e3],e4⟩
      unfold Z1i
      simp [e1,e2,e3,e4]
     ·refine .inr ⟨?_,by rw [e4]⟩
      unfold Z1i
      simp [e1,e2,e3,e4]
   ·have f3:=Zgz s b (by omega) hs
    refine (((f0.and f1).and f2).and f3).mono fun k ⟨⟨⟨h0,h1⟩,h2⟩,h3⟩=>⟨Zfb s 0,Zfb s a,Zfb s b,([],s,(b:Int),true),h0,?_,?_,?_,.inr ⟨?_,?_⟩⟩
    ·rw [e1];exact h1
    ·rw [e2];exact h2
    ·rw [e3];exact h3
    ·unfold Z1i
     simp [e1,e2,e3]
    ·rfl
  ·have f2:=Zt4 s a (by omega) hs
   have f3:=Zgz s a (by omega) hs
   refine (((f0.and f1).and f2).and f3).mono fun k ⟨⟨⟨h0,h1⟩,h2⟩,h3⟩=>⟨Zfb s 0,Zfb s a,(0,s,(a:Int),true),([],s,(a:Int),true),h0,?_,?_,h3,.inr ⟨?_,rfl⟩⟩
   ·rw [e1];exact h1
   ·rw [e2];exact h2
   ·unfold Z1i
    simp [e1,e2]
 ·have f1:=Zt4 s 0 (by omega) hs
  have f3:=Zgz s 0 (by omega) hs
  refine ((f0.and f1).and f3).mono fun k ⟨⟨h0,h1⟩,h3⟩=>⟨Zfb s 0,(0,s,((0:Nat):Int),true),(0,s,((0:Nat):Int),true),([],s,((0:Nat):Int),true),h0,?_,h1,h3,.inr ⟨?_,rfl⟩⟩
  ·rw [e1];exact h1
  ·unfold Z1i
   simp [e1]
end Go.Proofs.Qz
namespace Go.Proofs.Qz
open Go
set_option linter.unusedVariables false
def Zbd (k t f:Int) (d:Str) (n:Int):Bool:=
 if k=1 then decide (0≤t)&&decide (t≤n-1)&&decide (f=0)&&(d==[])
 else if k=2 then decide (0≤t)&&decide (t≤n-1)&&decide (f=0)&&decide ((d.length:Int)=8)
 else if k=3 then decide (0≤t)&&decide (t≤n-1)&&(decide (0≤f)&&decide (f≤n-1))&&(d==[])
 else if k=4 then decide (0≤t)&&decide (t≤n-1)&&(decide (0≤f)&&decide (f≤n-1))&&decide ((d.length:Int)=8)
 else if k=5 then decide (t=0)&&(decide (0≤f)&&decide (f≤1000000))&&(d==[])
 else false
theorem Zez (k t f:Int) (d:Str) (n:Int) (h1:1≤n) (h2:n≤8):Zrh (k,(t,(f,d))) n=some (Zbd k t f d n):=by
 unfold Zrh Zib Zbd
 simp only [Yc]
 rw [w64 (n:=n-1) (by omega) (by omega),decide_eq_true h1,decide_eq_true h2]
 simp only [Zyh]
 generalize (decide (0≤t)&&decide (t≤n-1))=P
 generalize (decide (0≤f)&&decide (f≤n-1))=Q
 generalize (decide (0≤f)&&decide (f≤1000000))=R
 generalize (d==([]:Str))=E
 generalize decide ((d.length:Int)=8)=Z
 by_cases c1:k=1
 ·subst c1;cases P <;> by_cases h:f=0 <;> simp [h]
 by_cases c2:k=2
 ·subst c2;cases P <;> by_cases h:f=0 <;> simp [h]
 by_cases c3:k=3
 ·subst c3;cases P <;> cases Q <;> simp
 by_cases c4:k=4
 ·subst c4;cases P <;> cases Q <;> simp
 by_cases c5:k=5
 ·subst c5;cases R <;> by_cases h:t=0 <;> simp [h]
 simp [c1,c2,c3,c4,c5]
theorem Zqx (k t f:Int) (d:Str) (n:Int) (h1:1≤n) (h2:n≤8):Zkc (k,(t,(f,d))) n=some (Zbd k t f d n):=by
 have hw:Yb .i64 (n-1)=n-1:=w64 (by omega) (by omega)
 unfold Zkc
 simp only [Zeb,Z4h,Yc,hw,Zkc.j0,Zkc.j1,Zbd,Zyh]
 generalize (decide (0≤t)&&decide (t≤n-1))=P
 generalize (decide (0≤f)&&decide (f≤n-1))=Q
 generalize (d==([]:Str))=E
 by_cases c1:k=1
 ·subst c1;cases P <;> by_cases h:f=0 <;> simp [h]
 by_cases c2:k=2
 ·subst c2;cases P <;> by_cases h:f=0 <;> simp [h]
 by_cases c3:k=3
 ·subst c3;cases P <;> cases Q <;> simp
 by_cases c4:k=4
 ·subst c4;cases P <;> cases Q <;> simp
 by_cases c5:k=5
 ·subst c5;cases E <;> by_cases h:t=0 <;> simp [h]
 have hk:(decide (1≤k)&&decide (k≤5))=false:=by
  rw [Yaa,Ne,Ym,decide_eq_true_eq,decide_eq_true_eq];omega
 simp [c1,c2,c3,c4,c5,hk]
theorem Zpz {k t f:Int} {d:Str} {n:Int} (h:Zbd k t f d n=true):d.length≤8:=by
 unfold Zbd at h
 have e:(d==([]:Str))=true→d.length≤8:=fun q=>by
  rw [Z8p] at q
  rw [of_decide_eq_true q];simp
 have e8:decide ((d.length:Int)=8)=true→d.length≤8:=fun q=>by
  have:=of_decide_eq_true q;omega
 split at h
 ·exact e ((Ym _ _).mp h).2
 split at h
 ·exact e8 ((Ym _ _).mp h).2
 split at h
 ·exact e ((Ym _ _).mp h).2
 split at h
 ·exact e8 ((Ym _ _).mp h).2
 split at h
 ·exact e ((Ym _ _).mp h).2
 ·cases h
def Z9h (s:Str):Option (Int×Int×Int×Str):=match Z1i s with
 | some (x,y,z,t,d)=>if d=s.length∧Zbd x y z t 8=true then some (x,y,z,t) else none
 | none=>none
theorem Z2mb {s:Str} {x y z:Int} {t:Str} (h:Z9h s=some (x,y,z,t)):Zbd x y z t 8=true:=by
 unfold Z9h at h
 split at h
 ·split at h
  ·rename_i hq
   cases h
   exact hq.2
  ·cases h
 ·cases h
theorem Zyab (x y z:Int) (t:Str) (hx:Num x) (hy:Num y) (hz:Num z) (ht:t.length≤8000):Ze fun k=>Z5b k x=some (Zm x)∧Z5b k y=some (Zm y)∧Z5b k z=some (Zm z)∧Zji k t=some (Z3b t):=
 ((Zii x hx).and ((Zii y hy).and ((Zii z hz).and (Zdz t ht))))
theorem Zjmb (x y z:Int) (t:Str) (hx:Num x) (hy:Num y) (hz:Num z) (ht:t.length≤8000):Ze fun k=>Zqp k (x,(y,(z,t)))=some (if Zbd x y z t 8=true then Zm x++Zm y++Zm z++Z3b t else []):=by
 refine (Zyab x y z t hx hy hz ht).mono fun k ⟨h1,h2,h3,h4⟩=>?_
 have l1:=Znc x
 have l2:=Znc y
 have l3:=Znc z
 have l4:=Zoj t
 unfold Zqp
 rw [Zez x y z t 8 (by omega) (by omega)]
 simp only [Yc]
 by_cases hb:Zbd x y z t 8=true
 ·rw [hb,if_pos rfl]
  unfold Zal
  simp only [Yca,cond_false]
  rw [h1,h2,h3,h4]
  simp only [Yc]
  rw [Zrc (by omega)]
  simp only [Yc]
  rw [Zrc (by simp;omega)]
  simp only [Yc]
  rw [Zrc (by simp;omega)]
  rfl
 ·rw [if_neg hb,(Yaa.2 hb:Zbd x y z t 8=false)]
  rfl
theorem Z47 {s:Str} (h:1≤s.length):(([]:Str)==s)=false:=by
 cases s with
 | nil=>exact absurd h (by simp)
 | cons _ _=>rfl
theorem Zw4 (s:Str) (hs:s.length≤8000):Ze fun k=>Z9k k s=some (match Z9h s with
  | some (x,y,z,t)=>(x,y,z,t,0)
  | none=>(0,0,0,[],3)):=by
 cases hq:Z1i s with
 | none=>
  refine (Zdbb s hs).mono fun k ⟨v3,v4,v5,v6,h3,h4,h5,h6,h⟩=>?_
  have h7:v6.2.2.2=true:=by
   rcases h with ⟨x,y,z,t,d,e,_⟩ | ⟨_,h⟩
   ·rw [hq] at e;cases e
   ·exact h
  unfold Z9k Z9h
  rw [hq,decide_eq_false (by omega:¬(8000<(s.length:Int)))]
  simp only [cond_false]
  rw [h3]
  simp only [Yc]
  rw [h4]
  simp only [Yc]
  rw [h5]
  simp only [Yc]
  rw [h6]
  simp only [Yc]
  rw [h7]
  rfl
 | some q=>
  obtain ⟨x,y,z,t,d⟩:=q
  obtain ⟨a,b,c,g1,g2,g3,g4⟩:=Zzab hq
  refine ((Zdbb s hs).and (Zjmb x y z t g1.range g2.range g3.range g4.size)).mono fun k ⟨⟨v3,v4,v5,v6,h3,h4,h5,h6,h⟩,hb⟩=>?_
  have h7:v3.1=x∧v4.1=y∧v5.1=z∧v6=(t,s,((d:Nat):Int),false):=by
   rcases h with ⟨x',y',z',t',d',e,h⟩ | ⟨e,_⟩
   ·rw [hq] at e;cases e;exact h
   ·rw [hq] at e;cases e
  obtain ⟨i1,i2,i3,i4⟩:=h7
  unfold Z9k Z9h
  rw [hq,decide_eq_false (by omega:¬(8000<(s.length:Int)))]
  simp only [cond_false]
  rw [h3]
  simp only [Yc]
  rw [h4]
  simp only [Yc]
  rw [h5]
  simp only [Yc]
  rw [h6]
  simp only [Yc]
  rw [i1,i2,i3,i4]
  simp only [cond_false]
  rw [hb]
  simp only [Yc]
  by_cases hr:Zbd x y z t 8=true
  ·rw [if_pos hr,Z8p]
   by_cases hd:d=s.length
   ·rw [decide_eq_true ((Z91 g1 g2 g3 g4).2 hd),if_pos ⟨hd,hr⟩]
    rfl
   ·rw [decide_eq_false (fun q=>hd ((Z91 g1 g2 g3 g4).1 q)),if_neg (fun q=>hd q.1)]
    rfl
  ·have:=g1.le
   have:=g1.at'
   have:=Z63 x
   rw [if_neg hr,if_neg (fun q=>hr q.2),Z47 (by omega)]
   rfl
end Go.Proofs.Qz
namespace Go.Proofs.Qz
open Go
set_option linter.unusedVariables false
abbrev Zk:=Int×Int×Int×Str
end Go.Proofs.Qz
namespace Go.Proofs.Qz
open Go
set_option linter.unusedVariables false
theorem Zs5 {n:Int} (h0:0≤n) (h1:n<18446744073709551616):Yb .u64 n=n:=by rw [Z3g];omega
end Go.Proofs.Qz
