/- What the law FnExactAgentNext needs, part 7 of 13: the Lean functions of the Go functions that it reaches, with the proofs that the calls come to what they say, and plain facts about them. Conditions: those that each theorem states. Written by a session and by its programs (after the kit's printer). -/
import Derived.Lib.LaidTab
import Derived.Lib.AppendIntMem
import Derived.Shelf.Strings.Builder1
import Derived.Shelf.Strings.Builder2
import Derived.Shelf.Strings.OnBuilder
import Derived.Shelf.Strings.BuilderF
import Derived.Shelf.Strings.Prefix
import Derived.Shelf.Bits.Mul64
import Derived.Shelf.Strings.Repeat
import Derived.Ground.Names2Prog
import Derived.Shelf.Slices.Delete
import Derived.Shelf.Slices.Cells
import Derived.Shelf.Slices.Empties
import Derived.Test.YtfbancgdmghnkaaGreatDoorProg
import Derived.Test.YtfbancgdmghnkaaGreatDoorXFnExactAgentNext5
namespace Go.Proofs.YtfbancgdmghnkaaGreatDoorE
open Go Go.RowKit
set_option linter.unusedVariables false
def Zbu : (r : Ty) → r.T → Option Value
 | .int k, n => some (.int k n)
 | .bool, b => some (.bool b)
 | .str, s => some (.string (ba s))
 | _, _ => none
section
variable {P : Program} {w : World}
theorem Zy7 {F : Nat → Prop} : ∀ {r : Ty} {x : r.T} {v : Value}, Zbu r x = some v → Rep w F r x [v] ∧ r.sz = 1
 | .int k, _, _, h => by cases h; exact ⟨rfl, rfl⟩
 | .bool, _, _, h => by cases h; exact ⟨rfl, rfl⟩
 | .str, _, _, h => by cases h; exact ⟨rfl, rfl⟩
 | .sl _, _, _, h => by cases h
 | .pair _ _, _, _, h => by cases h
 | .unit, _, _, h => by cases h
theorem Zu9 {n : Nat} {r : Ty} {l : List r.T} {cs : Array Value} {ty : TypeId} {fr : Nat × Nat} (hg : w.heap[n]? = some (.cells cs ty fr)) (h : l.map (Zbu r) = cs.toList.map some) (hr : r.sz = 1) : Gl1 w n r l := by
 have hlen : l.length = cs.size := by
  have := congrArg List.length h
  simpa using this
 refine ⟨(Array.getElem?_eq_some_iff.1 hg).1, ⟨_, _, rfl, Nat.le_refl _, .inr ⟨n, 0, rfl, rfl, fun j x hj => ?_⟩⟩, cs, ty, fr, hg, by rw [hr, hlen, Nat.mul_one]⟩
 have hx := congrArg (fun z => z[j]?) h
 simp only [List.getElem?_map, hj, Option.map_some] at hx
 cases hv : cs.toList[j]? with
 | none => rw [hv] at hx; cases hx
 | some v =>
  rw [hv] at hx
  have hx : Zbu r x = some v := Option.some.inj hx
  refine ⟨[v], fun i u hu => ?_, (Zy7 hx).1⟩
  cases i with
  | zero =>
   cases hu
   rw [cell_of_row w n _ cs ty fr hg, hr, Nat.zero_add, Nat.mul_one, Nat.add_zero]
   simpa using hv
  | succ i => cases hu
theorem Zf0 {ps : List MemPlace} : ∀ {l : List (String × DataW Unit)} {ps : List MemPlace}, DataW.LaidVars P w l ps → ∀ {name : String} {d : DataW Unit}, (name, d) ∈ l → ∃ g t cs fuel p, P.globalNamed name = some g ∧ (P.globals[g]?).map (·.type) = some t ∧ w.var? P name = some cs ∧ DataW.trod (fun _ => ()) P w 0 (fun _ => true) false fuel t cs.toList = some (d, p)
 | [], _, _, _, _, hm => nomatch hm
 | (n, d) :: l, _, ⟨g, t, cs, fuel, p, q, h1, h2, h3, h4, h5, _⟩, name, d', hm => by
  rcases List.mem_cons.1 hm with e | hm
  ·cases e
   exact ⟨g, t, cs, fuel, p, h1, h2, h3, h4⟩
  ·exact Zf0 (ps := ps) h5 hm
theorem Znbb {name : String} {g : Nat} {cs : Array Value} (hg : P.globalNamed name = some g) (h : w.var? P name = some cs) : ∃ ty fr, w.heap[g]? = some (.cells cs ty fr) := by
 unfold World.var? at h
 rw [hg, Option.bind_some] at h
 split at h
 ·rename_i c ty fr hb
  cases h
  exact ⟨ty, fr, hb⟩
 ·cases h
theorem Z12 {l : List (String × DataW Unit)} (h : laidMet P l w) {name : String} {k : IntKind} {zs : List Int} (hm : (name, Lib.tabData k zs) ∈ l) {g n : Nat} {t e : TypeId} (hg : P.globalNamed name = some g) (hty : (P.globals[g]?).map (·.type) = some t)
  (ht : P.underlying t = some (.array n e)) (he : P.underlying e = some (.int k)) (hce : P.cellsOf e = 1) (hct : P.cellsOf t = n) : Gl1 w g (.int k) zs := by
 obtain ⟨ps, hv, _⟩ := h
 obtain ⟨g', t', cs, fuel, p, h1, h2, h3, h4⟩ := Zf0 (ps := ps) hv hm
 obtain rfl := Option.some.inj (hg.symm.trans h1)
 obtain rfl := Option.some.inj (hty.symm.trans h2)
 obtain ⟨ty, fr, hb⟩ := Znbb hg h3
 have hc := Lib.cells_of_tab ht he hce hct h4
 exact Zu9 hb (by rw [hc]; simp [Zbu]) rfl
end
end Go.Proofs.YtfbancgdmghnkaaGreatDoorE
section
namespace Go.Proofs
open Go.Shelf
def Tryz.lays156_ren : Go.Shelf.Ren := ⟨fun | 156 => 94 | 165 => 127 | 166 => 128 | 169 => 129 | 240 => 155 | 241 => 156 | 276 => 175 | 277 => 176 | n => n, fun | 31 => 27 | 9 => 9 | 3 => 3 | 4 => 4 | 0 => 0 | 20 => 20 | 72 => 171 | 76 => 175 | 70 => 168 | 37 => 169 | 75 => 174 | 127 => 212 | 164 => 225 | 5 => 5 | 80 => 147 | n => n, fun | n => n⟩
theorem Tryz.lays156 : Go.Proofs.Lays.n156 Tryz.prog Tryz.lays156_ren := {
 mixed := by kernel_rfl
 f156 := Tryz.func94.trans (congrArg some (by kernel_rfl))
 f165 := Tryz.func127.trans (congrArg some (by kernel_rfl))
 f166 := Tryz.func128.trans (congrArg some (by kernel_rfl))
 f169 := Tryz.func129.trans (congrArg some (by kernel_rfl))
 f240 := Tryz.func155.trans (congrArg some (by kernel_rfl))
 f241 := Tryz.func156.trans (congrArg some (by kernel_rfl))
 f276 := Tryz.func175.trans (congrArg some (by kernel_rfl))
 f277 := Tryz.func176.trans (congrArg some (by kernel_rfl))
 t0 := Tryz.underlying0
 a0 := Tryz.isAgg0
 z0 := Tryz.sizeOf0
 v0 := Tryz.zeroValue0
 t3 := Tryz.underlying3
 a3 := Tryz.isAgg3
 z3 := Tryz.sizeOf3
 v3 := Tryz.zeroValue3
 t4 := Tryz.underlying4
 a4 := Tryz.isAgg4
 z4 := Tryz.sizeOf4
 v4 := Tryz.zeroValue4
 t9 := Tryz.underlying9
 a9 := Tryz.isAgg9
 z9 := Tryz.sizeOf9
 v9 := Tryz.zeroValue9
 t20 := Tryz.underlying20
 a20 := Tryz.isAgg20
 z20 := Tryz.sizeOf20
 v20 := Tryz.zeroValue20
 t31 := Tryz.underlying27
 a31 := Tryz.isAgg27
 z31 := Tryz.sizeOf27
 v31 := Tryz.zeroValue27
 t37 := Tryz.underlying169
 a37 := Tryz.isAgg169
 z37 := Tryz.sizeOf169
 v37 := Tryz.zeroValue169
 t70 := Tryz.underlying168
 a70 := Tryz.isAgg168
 z70 := Tryz.sizeOf168
 v70 := Tryz.zeroValue168
 t72 := Tryz.underlying171
 a72 := Tryz.isAgg171
 z72 := Tryz.sizeOf171
 v72 := Tryz.zeroValue171
 t75 := Tryz.underlying174
 a75 := Tryz.isAgg174
 z75 := Tryz.sizeOf174
 v75 := Tryz.zeroValue174
 t76 := Tryz.underlying175
 a76 := Tryz.isAgg175
 z76 := Tryz.sizeOf175
 v76 := Tryz.zeroValue175
 t127 := Tryz.underlying212
 a127 := Tryz.isAgg212
 z127 := Tryz.sizeOf212
 v127 := Tryz.zeroValue212
 t164 := Tryz.underlying225
 a164 := Tryz.isAgg225
 z164 := Tryz.sizeOf225
 v164 := Tryz.zeroValue225 }
theorem Tryz.Builder_Extra_156 : Builder.Extra Tryz.prog Tryz.lays156_ren := {
 sizeBuilder := by kernel_rfl
 liesBuilder := by kernel_rfl
 t5 := Tryz.underlying5
 a5 := Tryz.isAgg5
 z5 := Tryz.sizeOf5
 v5 := Tryz.zeroValue5
 infoByte := by kernel_rfl
 cellsByte := by kernel_rfl
 sizeByte := by kernel_rfl
 neB5 := by decide }
open Go.RowKit in
theorem Tryz.strings_Join_none (a : Option Addr) (c : Nat) (sep : ByteArray) (w : World) :
  Calls Tryz.prog 94 #[.slice a 0 c, .string sep] w fun e w' => e = .returned (.string ⟨#[]⟩) ∧ w' = w := Any.strings_Join_none Tryz.lays156 Tryz.Builder_Extra_156 a c sep w
open Go.RowKit in
theorem Tryz.strings_Join (bk o c : Nat) (xs : List ByteArray) (sep : ByteArray) (w : World) (hcells : ∀ (j : Nat) x, xs[j]? = some x → w.cell? ⟨bk, o + j, none⟩ = some (.string x)) (hbk : bk < w.heap.size) (hN : xs.length ≤ 140737488355328) (hcap : xs.length ≤ c) (hlen : (Lib.join (xs.map (·.data.toList)) sep.data.toList).length ≤ 140737488355328) :
  Calls Tryz.prog 94 #[.slice (some ⟨bk, o, none⟩) xs.length c, .string sep] w fun e w' => e = .returned (.string ⟨(Lib.join (xs.map (·.data.toList)) sep.data.toList).toArray⟩) ∧ Below w.heap.size w w' := Any.strings_Join Tryz.lays156 Tryz.Builder_Extra_156 bk o c xs sep w hcells hbk hN hcap hlen
def Tryz.lays105_ren : Go.Shelf.Ren := ⟨fun | 105 => 124 | 212 => 150 | 99 => 151 | 165 => 127 | 166 => 128 | 170 => 152 | 169 => 129 | 263 => 171 | 264 => 172 | 206 => 173 | 240 => 155 | 241 => 156 | 276 => 175 | 277 => 176 | n => n, fun | 9 => 9 | 3 => 3 | 4 => 4 | 20 => 20 | 0 => 0 | 46 => 191 | 109 => 205 | 5 => 5 | 72 => 171 | 76 => 175 | 51 => 161 | 146 => 221 | 53 => 165 | 148 => 223 | 70 => 168 | 37 => 169 | 75 => 174 | 127 => 212 | 164 => 225 | 80 => 147 | n => n, fun | n => n⟩
theorem Tryz.lays105 : Go.Proofs.Lays.n105 Tryz.prog Tryz.lays105_ren := {
 mixed := by kernel_rfl
 f99 := Tryz.func151.trans (congrArg some (by kernel_rfl))
 f105 := Tryz.func124.trans (congrArg some (by kernel_rfl))
 f165 := Tryz.func127.trans (congrArg some (by kernel_rfl))
 f166 := Tryz.func128.trans (congrArg some (by kernel_rfl))
 f169 := Tryz.func129.trans (congrArg some (by kernel_rfl))
 f170 := Tryz.func152.trans (congrArg some (by kernel_rfl))
 f206 := Tryz.func173.trans (congrArg some (by kernel_rfl))
 f212 := Tryz.func150.trans (congrArg some (by kernel_rfl))
 f240 := Tryz.func155.trans (congrArg some (by kernel_rfl))
 f241 := Tryz.func156.trans (congrArg some (by kernel_rfl))
 f263 := Tryz.func171.trans (congrArg some (by kernel_rfl))
 f264 := Tryz.func172.trans (congrArg some (by kernel_rfl))
 f276 := Tryz.func175.trans (congrArg some (by kernel_rfl))
 f277 := Tryz.func176.trans (congrArg some (by kernel_rfl))
 t0 := Tryz.underlying0
 a0 := Tryz.isAgg0
 z0 := Tryz.sizeOf0
 v0 := Tryz.zeroValue0
 t3 := Tryz.underlying3
 a3 := Tryz.isAgg3
 z3 := Tryz.sizeOf3
 v3 := Tryz.zeroValue3
 t4 := Tryz.underlying4
 a4 := Tryz.isAgg4
 z4 := Tryz.sizeOf4
 v4 := Tryz.zeroValue4
 t5 := Tryz.underlying5
 a5 := Tryz.isAgg5
 z5 := Tryz.sizeOf5
 v5 := Tryz.zeroValue5
 t9 := Tryz.underlying9
 a9 := Tryz.isAgg9
 z9 := Tryz.sizeOf9
 v9 := Tryz.zeroValue9
 t20 := Tryz.underlying20
 a20 := Tryz.isAgg20
 z20 := Tryz.sizeOf20
 v20 := Tryz.zeroValue20
 t37 := Tryz.underlying169
 a37 := Tryz.isAgg169
 z37 := Tryz.sizeOf169
 v37 := Tryz.zeroValue169
 t46 := Tryz.underlying191
 a46 := Tryz.isAgg191
 z46 := Tryz.sizeOf191
 v46 := Tryz.zeroValue191
 t51 := Tryz.underlying161
 a51 := Tryz.isAgg161
 z51 := Tryz.sizeOf161
 v51 := Tryz.zeroValue161
 t53 := Tryz.underlying165
 a53 := Tryz.isAgg165
 z53 := Tryz.sizeOf165
 v53 := Tryz.zeroValue165
 t70 := Tryz.underlying168
 a70 := Tryz.isAgg168
 z70 := Tryz.sizeOf168
 v70 := Tryz.zeroValue168
 t72 := Tryz.underlying171
 a72 := Tryz.isAgg171
 z72 := Tryz.sizeOf171
 v72 := Tryz.zeroValue171
 t75 := Tryz.underlying174
 a75 := Tryz.isAgg174
 z75 := Tryz.sizeOf174
 v75 := Tryz.zeroValue174
 t76 := Tryz.underlying175
 a76 := Tryz.isAgg175
 z76 := Tryz.sizeOf175
 v76 := Tryz.zeroValue175
 t109 := Tryz.underlying205
 a109 := Tryz.isAgg205
 z109 := Tryz.sizeOf205
 v109 := Tryz.zeroValue205
 t127 := Tryz.underlying212
 a127 := Tryz.isAgg212
 z127 := Tryz.sizeOf212
 v127 := Tryz.zeroValue212
 t146 := Tryz.underlying221
 a146 := Tryz.isAgg221
 z146 := Tryz.sizeOf221
 v146 := Tryz.zeroValue221
 t148 := Tryz.underlying223
 a148 := Tryz.isAgg223
 z148 := Tryz.sizeOf223
 v148 := Tryz.zeroValue223
 t164 := Tryz.underlying225
 a164 := Tryz.isAgg225
 z164 := Tryz.sizeOf225
 v164 := Tryz.zeroValue225 }
theorem Tryz.Builder_Extra_105 : Builder.Extra Tryz.prog Tryz.lays105_ren := {
 sizeBuilder := by kernel_rfl
 liesBuilder := by kernel_rfl
 t5 := Tryz.underlying5
 a5 := Tryz.isAgg5
 z5 := Tryz.sizeOf5
 v5 := Tryz.zeroValue5
 infoByte := by kernel_rfl
 cellsByte := by kernel_rfl
 sizeByte := by kernel_rfl
 neB5 := by decide }
open Go.RowKit Go.Lib in
theorem Tryz.strings_Repeat (s : ByteArray) (c : Nat) (w : World) (hc : c ≤ 9223372036854775807) (hlen : s.size * c ≤ 140737488355328) :
  Calls Tryz.prog 124 #[.string s, .int .i64 c] w fun e w' => e = .returned (.string ⟨(Lib.repeatL s.data.toList c).toArray⟩) ∧ Below w.heap.size w w' := Any.strings_Repeat Tryz.lays105 Tryz.Builder_Extra_105 s c w hc hlen
def Tryz.laysNm223_ren : Go.Shelf.Ren := ⟨fun | 23 => 78 | n => n, fun | 22 => 122 | 3 => 3 | 4 => 4 | 0 => 0 | n => n, fun | n => n⟩
theorem Tryz.laysNm223 : Go.Proofs.Lays2.n23 Tryz.prog Tryz.laysNm223_ren := {
 mixed := by kernel_rfl
 f23 := Tryz.func78.trans (congrArg some (by kernel_rfl))
 t0 := Tryz.underlying0
 a0 := Tryz.isAgg0
 z0 := Tryz.sizeOf0
 v0 := Tryz.zeroValue0
 t3 := Tryz.underlying3
 a3 := Tryz.isAgg3
 z3 := Tryz.sizeOf3
 v3 := Tryz.zeroValue3
 t4 := Tryz.underlying4
 a4 := Tryz.isAgg4
 z4 := Tryz.sizeOf4
 v4 := Tryz.zeroValue4
 t22 := Tryz.underlying122
 a22 := Tryz.isAgg122
 z22 := Tryz.sizeOf122
 v22 := Tryz.zeroValue122
 i3 := by kernel_rfl }
open Go.RowKit Go.Lib Go.Sort in
theorem Tryz.slices_Delete_int (blk off cap i j : Nat) (zs : List Int) (w : World) (hH : Holds (Value.int .i64) w blk off zs.toArray) (hcap : zs.length ≤ cap) (hm : cap ≤ 9223372036854775807) (hij : i ≤ j) (hj : j ≤ zs.length) :
  Calls Tryz.prog 78 #[.slice (some ⟨blk, off, none⟩) zs.length cap, .int .i64 i, .int .i64 j] w fun e w' => e = .returned (.slice (some ⟨blk, off, none⟩) (zs.length - (j - i)) cap) ∧ ∃ q, w' = putRow (Value.int .i64) (Sort.ahead w q) blk off (zs.take i ++ zs.drop j ++ List.replicate (j - i) 0).toArray := Any.slices_Delete_int Tryz.laysNm223 blk off cap i j zs w hH hcap hm hij hj
open Go.RowKit Go.Lib Go.Sort in
theorem Tryz.slices_Delete_int_cells (b off n c i j : Nat) (zs : List Int) (w : World) (hz : n ≤ zs.length) (hcap : n ≤ c) (hm : c ≤ 9223372036854775807) (hij : i ≤ j) (hj : j ≤ n) (hc : ∀ j, j < zs.length → w.cell? ⟨b, off + j, none⟩ = some (.int .i64 (zs.getD j 0))) (hf : ∀ j, j < n → w.frozen? ⟨b, off + j, none⟩ = false) :
  Calls Tryz.prog 78 #[.slice (some ⟨b, off, none⟩) n c, .int .i64 i, .int .i64 j] w fun e w' => e = .returned (.slice (some ⟨b, off, none⟩) (n - (j - i)) c) ∧ ∃ q, w' = (w.drewN q).setCells b off (((zs.take n).take i ++ (zs.take n).drop j ++ List.replicate (j - i) 0).map (Value.int .i64)) := Any.slices_Delete_int_cells Tryz.laysNm223 b off n c i j zs w hz hcap hm hij hj hc hf
open Go.RowKit Go.Lib in
theorem Tryz.slices_Delete_int_empty (a : Option Addr) (c : Nat) (w : World) :
  Calls Tryz.prog 78 #[.slice a 0 c, .int .i64 0, .int .i64 0] w fun e w' => e = .returned (.slice a 0 c) ∧ w' = w := Any.slices_Delete_int_empty Tryz.laysNm223 a c w
end Go.Proofs
end
namespace Go.Proofs.YtfbancgdmghnkaaGreatDoorE
open Go Go.RowKit
set_option linter.unusedVariables false
abbrev Z7c : Ty := (.pair (.int .i64) .str)
abbrev Zld := Int × Str
abbrev Zak : Ty := (.pair .str (.pair (.int .i64) .bool))
abbrev Zer := Str × Int × Bool
abbrev T109 : Ty := (.pair (.int .i64) (.pair .str (.int .i64)))
abbrev T181 : Ty := (.pair .str (.pair (.int .i64) (.int .i64)))
abbrev Zj4 : Ty := (.pair (.int .i64) (.pair (.int .i64) (.int .i64)))
abbrev G184 := Int × Int × Int
abbrev T30 : Ty := (.pair (.sl .str) (.sl Z7c))
abbrev G30 := List Str × List Zld
abbrev T36 : Ty := (.pair (.int .i64) (.pair (.int .i64) Z7c))
abbrev G36 := Int × Int × Zld
abbrev T93 : Ty := (.pair (.int .i64) Zj4)
abbrev G93 := Int × G184
abbrev T32 : Ty := (.pair (.int .i64) T30)
abbrev G32 := Int × G30
abbrev T189 : Ty := (.pair T36 (.int .i64))
abbrev Z67 : Ty := (.pair (.sl T93) (.int .i64))
abbrev T24 : Ty := (.pair (.int .i64) (.pair .str (.sl T36)))
abbrev G24 := Int × Str × List G36
abbrev T26 : Ty := (.pair T24 .bool)
abbrev G26 := G24 × Bool
abbrev T38 : Ty := (.pair (.int .i64) (.pair (.int .i64) (.pair (.int .i64) (.pair .str T36))))
abbrev G38 := Int × Int × Int × Str × G36
abbrev T75 : Ty := (.pair (.int .i64) (.pair (.int .i64) (.pair (.int .i64) (.pair (.int .i64) (.pair (.int .i64) (.pair .str (.pair (.sl (.int .i64)) (.sl (.int .i64)))))))))
abbrev G75 := Int × Int × Int × Int × Int × Str × List Int × List Int
abbrev T113 : Ty := (.pair T75 (.int .i64))
def TAB : Tab TI := (.node (.node (.node (.node (.node (.node (.node .nil none (.node .nil (some { sz := 1, agg := false, offs := [], elem := 0, kind := 1, ik := .u64, bytes := 8, zero := [.int .u64 0], ty := (.int .u64), eqs := false }) .nil)) none .nil) none .nil) none (.node (.node (.node .nil (some { sz := 4, agg := true, offs := [(0, 2), (1, 2), (2, 2), (3, 9)], elem := 0, kind := 4, ik := .i64, bytes := 40, zero := [.int .i64 0, .int .i64 0, .int .i64 0, .str []], ty := T36, eqs := true }) .nil) none .nil) none (.node (.node .nil (some { sz := 1, agg := false, offs := [], elem := 93, kind := 3, ik := .i64, bytes := 24, zero := [.nil], ty := (.sl T93), eqs := false }) .nil) none (.node .nil (some { sz := 2, agg := true, offs := [(0, 2), (1, 9)], elem := 0, kind := 4, ik := .i64, bytes := 24, zero := [.int .i64 0, .str []], ty := Z7c, eqs := true }) .nil)))) (some { sz := 1, agg := false, offs := [], elem := 0, kind := 1, ik := .i64, bytes := 8, zero := [.int .i64 0], ty := (.int .i64), eqs := false }) (.node (.node (.node .nil none (.node .nil (some { sz := 4, agg := true, offs := [(0, 2), (1, 2), (2, 2), (3, 9)], elem := 0, kind := 4, ik := .i64, bytes := 40, zero := [.int .i64 0, .int .i64 0, .int .i64 0, .str []], ty := T36, eqs := true }) .nil)) none .nil) none (.node (.node (.node .nil (some { sz := 8, agg := true, offs := [(0, 2), (1, 2), (2, 2), (3, 2), (4, 2), (5, 9), (6, 73), (7, 73)], elem := 0, kind := 4, ik := .i64, bytes := 104, zero := [.int .i64 0, .int .i64 0, .int .i64 0, .int .i64 0, .int .i64 0, .str [], .nil, .nil], ty := T75, eqs := false }) .nil) none .nil) (some { sz := 1, agg := false, offs := [], elem := 9, kind := 3, ik := .i64, bytes := 24, zero := [.nil], ty := (.sl .str), eqs := false }) (.node .nil none (.node .nil (some { sz := 1, agg := false, offs := [], elem := 1000123, kind := 6, ik := .i64, bytes := 8, zero := [.unk], ty := (.sl (.int .i64)), eqs := false }) .nil))))) none (.node (.node (.node (.node .nil none (.node (.node .nil (some { sz := 1, agg := false, offs := [], elem := 0, kind := 1, ik := .u32, bytes := 4, zero := [.int .u32 0], ty := (.int .u32), eqs := false }) .nil) none .nil)) none (.node (.node .nil none (.node .nil (some { sz := 64, agg := true, offs := [(64, 0)], elem := 161, kind := 7, ik := .i64, bytes := 256, zero := [.int .u32 0, .int .u32 0, .int .u32 0, .int .u32 0, .int .u32 0, .int .u32 0, .int .u32 0, .int .u32 0, .int .u32 0, .int .u32 0, .int .u32 0, .int .u32 0, .int .u32 0, .int .u32 0, .int .u32 0, .int .u32 0, .int .u32 0, .int .u32 0, .int .u32 0, .int .u32 0, .int .u32 0, .int .u32 0, .int .u32 0, .int .u32 0, .int .u32 0, .int .u32 0, .int .u32 0, .int .u32 0, .int .u32 0, .int .u32 0, .int .u32 0, .int .u32 0, .int .u32 0, .int .u32 0, .int .u32 0, .int .u32 0, .int .u32 0, .int .u32 0, .int .u32 0, .int .u32 0, .int .u32 0, .int .u32 0, .int .u32 0, .int .u32 0, .int .u32 0, .int .u32 0, .int .u32 0, .int .u32 0, .int .u32 0, .int .u32 0, .int .u32 0, .int .u32 0, .int .u32 0, .int .u32 0, .int .u32 0, .int .u32 0, .int .u32 0, .int .u32 0, .int .u32 0, .int .u32 0, .int .u32 0, .int .u32 0, .int .u32 0, .int .u32 0], ty := .unit, eqs := false }) .nil)) none (.node (.node .nil (some { sz := 1, agg := false, offs := [], elem := 4, kind := 3, ik := .i64, bytes := 24, zero := [.nil], ty := (.sl .bool), eqs := false }) .nil) (some { sz := 9, agg := true, offs := [(0, 75), (8, 2)], elem := 0, kind := 4, ik := .i64, bytes := 112, zero := [.int .i64 0, .int .i64 0, .int .i64 0, .int .i64 0, .int .i64 0, .str [], .nil, .nil, .int .i64 0], ty := T113, eqs := false }) .nil))) (some { sz := 1, agg := false, offs := [], elem := 0, kind := 2, ik := .i64, bytes := 16, zero := [.str []], ty := .str, eqs := false }) (.node (.node (.node .nil (some { sz := 1, agg := false, offs := [], elem := 2, kind := 3, ik := .i64, bytes := 24, zero := [.nil], ty := (.sl (.int .i64)), eqs := false }) .nil) none (.node (.node .nil (some { sz := 1, agg := false, offs := [], elem := 5, kind := 3, ik := .i64, bytes := 24, zero := [.nil], ty := (.sl (.int .u8)), eqs := false }) .nil) (some { sz := 2, agg := true, offs := [(0, 87), (1, 2)], elem := 0, kind := 4, ik := .i64, bytes := 32, zero := [.nil, .int .i64 0], ty := Z67, eqs := false }) .nil)) none .nil)) (some { sz := 1, agg := false, offs := [], elem := 0, kind := 1, ik := .u8, bytes := 1, zero := [.int .u8 0], ty := (.int .u8), eqs := false }) (.node (.node (.node .nil none (.node (.node .nil (some { sz := 1, agg := false, offs := [], elem := 0, kind := 1, ik := .u64, bytes := 8, zero := [.int .u64 0], ty := (.int .u64), eqs := false }) .nil) none .nil)) none (.node .nil none (.node (.node .nil (some { sz := 3, agg := true, offs := [(0, 9), (1, 2), (2, 2)], elem := 0, kind := 4, ik := .i64, bytes := 32, zero := [.str [], .int .i64 0, .int .i64 0], ty := T181, eqs := true }) .nil) none .nil))) none (.node (.node .nil none (.node .nil (some { sz := 3, agg := true, offs := [(0, 2), (1, 9), (2, 2)], elem := 0, kind := 4, ik := .i64, bytes := 32, zero := [.int .i64 0, .str [], .int .i64 0], ty := T109, eqs := true }) .nil)) none (.node (.node .nil (some { sz := 4, agg := true, offs := [(0, 2), (1, 2), (2, 2), (3, 2)], elem := 0, kind := 4, ik := .i64, bytes := 32, zero := [.int .i64 0, .int .i64 0, .int .i64 0, .int .i64 0], ty := T93, eqs := true }) .nil) none (.node (.node .nil (some { sz := 5, agg := true, offs := [(0, 36), (4, 2)], elem := 0, kind := 4, ik := .i64, bytes := 48, zero := [.int .i64 0, .int .i64 0, .int .i64 0, .str [], .int .i64 0], ty := T189, eqs := true }) .nil) none .nil)))))) none (.node (.node (.node (.node (.node .nil (some { sz := 3, agg := true, offs := [(0, 2), (1, 30)], elem := 0, kind := 4, ik := .i64, bytes := 56, zero := [.int .i64 0, .nil, .nil], ty := T32, eqs := false }) .nil) none (.node (.node (.node .nil (some { sz := 3, agg := true, offs := [(0, 9), (1, 2), (2, 4)], elem := 0, kind := 4, ik := .i64, bytes := 32, zero := [.str [], .int .i64 0, .kb false], ty := Zak, eqs := true }) .nil) none .nil) (some { sz := 2, agg := true, offs := [(0, 27), (1, 46)], elem := 0, kind := 4, ik := .i64, bytes := 48, zero := [.nil, .nil], ty := T30, eqs := false }) .nil)) none (.node (.node .nil (some { sz := 1, agg := false, offs := [], elem := 36, kind := 3, ik := .i64, bytes := 24, zero := [.nil], ty := (.sl T36), eqs := false }) .nil) (some { sz := 3, agg := true, offs := [(0, 2), (1, 9), (2, 22)], elem := 0, kind := 4, ik := .i64, bytes := 48, zero := [.int .i64 0, .str [], .nil], ty := T24, eqs := false }) (.node .nil none (.node (.node .nil (some { sz := 3, agg := true, offs := [(0, 2), (1, 2), (2, 2)], elem := 0, kind := 4, ik := .i64, bytes := 24, zero := [.int .i64 0, .int .i64 0, .int .i64 0], ty := Zj4, eqs := true }) .nil) none .nil)))) (some { sz := 1, agg := false, offs := [], elem := 0, kind := 5, ik := .i64, bytes := 1, zero := [.kb false], ty := .bool, eqs := false }) (.node (.node (.node .nil (some { sz := 4, agg := true, offs := [(0, 2), (1, 2), (2, 2), (3, 9)], elem := 0, kind := 4, ik := .i64, bytes := 40, zero := [.int .i64 0, .int .i64 0, .int .i64 0, .str []], ty := T36, eqs := true }) .nil) none .nil) none (.node (.node .nil (some { sz := 4, agg := true, offs := [(0, 42), (3, 4)], elem := 0, kind := 4, ik := .i64, bytes := 56, zero := [.int .i64 0, .str [], .nil, .kb false], ty := T26, eqs := false }) .nil) (some { sz := 1, agg := false, offs := [], elem := 102, kind := 3, ik := .i64, bytes := 24, zero := [.nil], ty := (.sl Z7c), eqs := false }) .nil))) (some { sz := 1, agg := false, offs := [], elem := 0, kind := 1, ik := .i64, bytes := 8, zero := [.int .i64 0], ty := (.int .i64), eqs := false }) (.node (.node (.node (.node .nil none (.node (.node .nil (some { sz := 8, agg := true, offs := [(8, 0)], elem := 161, kind := 7, ik := .i64, bytes := 32, zero := [.int .u32 0, .int .u32 0, .int .u32 0, .int .u32 0, .int .u32 0, .int .u32 0, .int .u32 0, .int .u32 0], ty := .unit, eqs := false }) .nil) none .nil)) none (.node .nil (some { sz := 3, agg := true, offs := [(0, 2), (1, 48)], elem := 0, kind := 4, ik := .i64, bytes := 56, zero := [.int .i64 0, .nil, .nil], ty := T32, eqs := false }) .nil)) none (.node (.node .nil (some { sz := 3, agg := true, offs := [(0, 2), (1, 9), (2, 40)], elem := 0, kind := 4, ik := .i64, bytes := 48, zero := [.int .i64 0, .str [], .nil], ty := T24, eqs := false }) .nil) (some { sz := 4, agg := true, offs := [(0, 24), (3, 4)], elem := 0, kind := 4, ik := .i64, bytes := 56, zero := [.int .i64 0, .str [], .nil, .kb false], ty := T26, eqs := false }) (.node (.node (.node .nil (some { sz := 3, agg := true, offs := [(0, 9), (1, 2), (2, 4)], elem := 0, kind := 4, ik := .i64, bytes := 32, zero := [.str [], .int .i64 0, .kb false], ty := Zak, eqs := true }) .nil) none (.node .nil (some { sz := 1, agg := false, offs := [], elem := 161, kind := 3, ik := .i64, bytes := 24, zero := [.nil], ty := (.sl (.int .u32)), eqs := false }) .nil)) none (.node .nil (some { sz := 1, agg := false, offs := [], elem := 3, kind := 3, ik := .i64, bytes := 24, zero := [.nil], ty := (.sl (.int .i64)), eqs := false }) .nil)))) none (.node (.node (.node .nil (some { sz := 8, agg := true, offs := [(0, 2), (1, 2), (2, 2), (3, 9), (4, 36)], elem := 0, kind := 4, ik := .i64, bytes := 80, zero := [.int .i64 0, .int .i64 0, .int .i64 0, .str [], .int .i64 0, .int .i64 0, .int .i64 0, .str []], ty := T38, eqs := true }) (.node .nil (some { sz := 2, agg := true, offs := [(0, 2), (1, 9)], elem := 0, kind := 4, ik := .i64, bytes := 24, zero := [.int .i64 0, .str []], ty := Z7c, eqs := true }) .nil)) (some { sz := 1, agg := false, offs := [], elem := 99, kind := 3, ik := .i64, bytes := 24, zero := [.nil], ty := (.sl T36), eqs := false }) .nil) none (.node (.node .nil (some { sz := 1, agg := false, offs := [], elem := 119, kind := 3, ik := .i64, bytes := 24, zero := [.nil], ty := (.sl Z7c), eqs := false }) .nil) (some { sz := 2, agg := true, offs := [(0, 27), (1, 28)], elem := 0, kind := 4, ik := .i64, bytes := 48, zero := [.nil, .nil], ty := T30, eqs := false }) .nil)))))
theorem Zi : Zxc Tryz.prog TAB ∧ Tryz.prog.follows .mixedOrders = true := ⟨Zfeb (by kernel_rfl), by kernel_rfl⟩
end Go.Proofs.YtfbancgdmghnkaaGreatDoorE
namespace Go.Proofs.YtfbancgdmghnkaaGreatDoorE
open Go Go.RowKit
set_option linter.unusedVariables false
def Z7g (a1 : G36) (a2 : Int) : Option (Int) :=
 let e3 := IntKind.wrap .i64 (a2 - ((a1.2.2.2.length) : Int))
 bif decide (e3 < 0) then
  some (-1)
 else
 some e3
def Z7g.sig : Sig := { ps := [.val true T36 (ros T36), .val false (.int .i64) (ros (.int .i64))], rs := [.val false [.v (.int .i64)]], ntmps := 13 }
def Z7g.con (k : Nat) : Con := Z7g.sig.con (fun x => Z7g x.1 x.2)
def Z7g.C (k : Nat) : Ctx := { ti := TAB, con := Zh [] }
theorem Z7g.cok (k : Nat) : CtxOk Tryz.prog (Z7g.C k) := Zj Zi trivial
theorem Z7g.ev (k : Nat) (x : Za Z7g.sig.ins) : Z7g.sig.ev (Z7g.C k) .auto Tryz.f56.results.toList (cB Tryz.f56) x = Z7g x.1 x.2 := by kernel_rfl
theorem Z7g.ok (k : Nat) : Zf Tryz.prog 56 (Z7g.con k) := Zk (p := .auto) (Z7g.cok k) Tryz.func56 (by kernel_rfl) (show Tryz.f56.body = some (cB Tryz.f56) by kernel_rfl) (by kernel_rfl) (by kernel_rfl) (Zd (L := []) (by kernel_rfl) trivial) (fun x y h => (Z7g.ev k x).trans h)
def Zib.l0 : Nat → List G36 → Int → Int → Option (Int ⊕ Int)
 | 0, _, _, _ => none
 | j + 1, a1, a2, a3 =>
  bif decide (a3 < ((a1.length) : Int)) then
   Option.bind (at? a1 a3) fun v4 =>
   Option.bind (Z7g v4 a2) fun v5 =>
   bif decide (v5 < 0) then
    some (.inr (-1))
   else
   Zib.l0 j a1 v5 (IntKind.wrap .i64 (a3 + 1))
  else
  some (.inl a2)
def Zib (k : Nat) (a1 : List G36) (a2 : Int) : Option (Int) :=
 let e3 := IntKind.wrap .i64 (a2 - ((a1.length) : Int))
 bif decide (e3 < 0) then
  some (-1)
 else
 Option.bind (Zib.l0 k a1 e3 0) fun
  | .inl y4 =>
   some y4
  | .inr y5 =>
   some y5
def Zib.sig : Sig := { ps := [.val false (.sl T36) (ros (.sl T36)), .val false (.int .i64) (ros (.int .i64))], rs := [.val false [.v (.int .i64)]], ntmps := 27 }
def Zib.con (k : Nat) : Con := Zib.sig.con (fun x => Zib k x.1 x.2)
def Zib.C (k : Nat) : Ctx := { ti := TAB, con := Zh [(56, Z7g.con k)] }
theorem Zib.cok (k : Nat) : CtxOk Tryz.prog (Zib.C k) := Zj Zi ⟨Z7g.ok k, trivial⟩
def Zib.l0.ish : Shape := { tmps := [(0, .one (.bor T36)), (1, .one (.v (.int .i64))), (5, .one (.v (.int .i64)))], slots := [], nb := 0 }
def Zib.l0.outs : List (Ex × Shape) := [(.exit 0, { tmps := [(1, .one (.v (.int .i64)))], slots := [], nb := 0 }), (.ret, { tmps := [(4, .one (.v (.int .i64)))], slots := [], nb := 0 })]
def Zib.l0.F (k j : Nat) (x : Za Zib.l0.ish.tys) : Option (Zy Zib.l0.outs) := Zib.l0 j x.1 x.2.1 x.2.2
def Zib.l0.s (k : Nat) : Summ := { n := 27, ish := Zib.l0.ish, outs := Zib.l0.outs, f := Zib.l0.F k k }
theorem Zib.l0.ev (k j : Nat) (x : Za Zib.l0.ish.tys) : V (Zib.C k) .auto (cO (cO (cR (cL (cR (cR (cR (cB Tryz.f26)))))))) (mk Zib.l0.ish 27 x) (fun e st' => match e with | .nrm => (rd Zib.l0.ish st').bind (Zib.l0.F k j) | e => Z0 e st' Zib.l0.outs) = Zib.l0.F k (j + 1) x := by kernel_rfl
theorem Zib.l0.ok (k : Nat) : Z1 Tryz.prog (Zib.C k) (.loop (cO (cO (cR (cL (cR (cR (cR (cB Tryz.f26))))))))) (Zib.l0.s k) := Z5 (by kernel_rfl) (sum_loop (p := .auto) (F := Zib.l0.F k) (Zib.cok k) (by kernel_rfl) (Zd (L := []) (by kernel_rfl) trivial) (fun _ => rfl) (fun j x y h => (Zib.l0.ev k j x).trans h) k rfl)
theorem Zib.ev (k : Nat) (x : Za Zib.sig.ins) : Zib.sig.ev (Zib.C k) (.two .auto (.two .auto (.two .auto (.two (.two .auto (.one (.sum (Zib.l0.s k)))) .auto)))) Tryz.f26.results.toList (cB Tryz.f26) x = Zib k x.1 x.2 := by kernel_rfl
theorem Zib.ok (k : Nat) : Zf Tryz.prog 26 (Zib.con k) := Zk (p := (.two .auto (.two .auto (.two .auto (.two (.two .auto (.one (.sum (Zib.l0.s k)))) .auto))))) (Zib.cok k) Tryz.func26 (by kernel_rfl) (show Tryz.f26.body = some (cB Tryz.f26) by kernel_rfl) (by kernel_rfl) (by kernel_rfl) (Zd (L := [(Zib.l0.s k, cO (cR (cL (cR (cR (cR (cB Tryz.f26)))))))]) (by kernel_rfl) ⟨Zib.l0.ok k, trivial⟩) (fun x y h => (Zib.ev k x).trans h)
def Z3e (k : Nat) (a1 : G24) (a2 : Int) : Option (Int) :=
 let e3 := IntKind.wrap .i64 (a2 - ((a1.2.1.length) : Int))
 bif decide (e3 < 0) then
  some (-1)
 else
 Option.bind (Zib k a1.2.2 e3) fun v4 =>
 bif decide (v4 < 0) then
  some (-1)
 else
 some v4
def Z3e.sig : Sig := { ps := [.val true T24 (ros T24), .val false (.int .i64) (ros (.int .i64))], rs := [.val false [.v (.int .i64)]], ntmps := 19 }
def Z3e.con (k : Nat) : Con := Z3e.sig.con (fun x => Z3e k x.1 x.2)
def Z3e.C (k : Nat) : Ctx := { ti := TAB, con := Zh [(26, Zib.con k)], rob := true }
theorem Z3e.cok (k : Nat) : CtxOk Tryz.prog (Z3e.C k) := Zj Zi ⟨Zib.ok k, trivial⟩
theorem Z3e.ev (k : Nat) (x : Za Z3e.sig.ins) : Z3e.sig.ev (Z3e.C k) .auto Tryz.f13.results.toList (cB Tryz.f13) x = Z3e k x.1 x.2 := by kernel_rfl
theorem Z3e.ok (k : Nat) : Zf Tryz.prog 13 (Z3e.con k) := Zk (p := .auto) (Z3e.cok k) Tryz.func13 (by kernel_rfl) (show Tryz.f13.body = some (cB Tryz.f13) by kernel_rfl) (by kernel_rfl) (by kernel_rfl) (Zd (L := []) (by kernel_rfl) trivial) (fun x y h => (Z3e.ev k x).trans h)
def Zcf (k : Nat) (a1 : G26) (a2 : Int) : Option (Int) :=
 Option.bind (Z3e k a1.1 a2) fun v3 =>
 bif decide (v3 < 0) then
  some (-1)
 else
 some v3
def Zcf.sig : Sig := { ps := [.val true T26 (ros T26), .val false (.int .i64) (ros (.int .i64))], rs := [.val false [.v (.int .i64)]], ntmps := 12 }
def Zcf.con (k : Nat) : Con := Zcf.sig.con (fun x => Zcf k x.1 x.2)
def Zcf.C (k : Nat) : Ctx := { ti := TAB, con := Zh [(13, Z3e.con k)], rob := true }
theorem Zcf.cok (k : Nat) : CtxOk Tryz.prog (Zcf.C k) := Zj Zi ⟨Z3e.ok k, trivial⟩
theorem Zcf.ev (k : Nat) (x : Za Zcf.sig.ins) : Zcf.sig.ev (Zcf.C k) .auto Tryz.f4.results.toList (cB Tryz.f4) x = Zcf k x.1 x.2 := by kernel_rfl
theorem Zcf.ok (k : Nat) : Zf Tryz.prog 4 (Zcf.con k) := Zk (p := .auto) (Zcf.cok k) Tryz.func4 (by kernel_rfl) (show Tryz.f4.body = some (cB Tryz.f4) by kernel_rfl) (by kernel_rfl) (by kernel_rfl) (Zd (L := []) (by kernel_rfl) trivial) (fun x y h => (Zcf.ev k x).trans h)
def Zpc.l0 : Nat → List Str → Int → Int → Option (Int ⊕ Int)
 | 0, _, _, _ => none
 | j + 1, a1, a2, a3 =>
  bif decide (a3 < ((a1.length) : Int)) then
   Option.bind (at? a1 a3) fun v4 =>
   let e5 := IntKind.wrap .i64 (a2 - ((v4.length) : Int))
   bif decide (e5 < 0) then
    some (.inr (-1))
   else
   Zpc.l0 j a1 e5 (IntKind.wrap .i64 (a3 + 1))
  else
  some (.inl a2)
def Zpc (k : Nat) (a1 : List Str) (a2 : Int) : Option (Int) :=
 let e3 := IntKind.wrap .i64 (a2 - ((a1.length) : Int))
 bif decide (e3 < 0) then
  some (-1)
 else
 Option.bind (Zpc.l0 k a1 e3 0) fun
  | .inl y4 =>
   some y4
  | .inr y5 =>
   some y5
def Zpc.sig : Sig := { ps := [.val false (.sl .str) (ros (.sl .str)), .val false (.int .i64) (ros (.int .i64))], rs := [.val false [.v (.int .i64)]], ntmps := 28 }
def Zpc.con (k : Nat) : Con := Zpc.sig.con (fun x => Zpc k x.1 x.2)
def Zpc.C (k : Nat) : Ctx := { ti := TAB, con := Zh [] }
theorem Zpc.cok (k : Nat) : CtxOk Tryz.prog (Zpc.C k) := Zj Zi trivial
def Zpc.l0.ish : Shape := { tmps := [(0, .one (.bor .str)), (1, .one (.v (.int .i64))), (5, .one (.v (.int .i64)))], slots := [], nb := 0 }
def Zpc.l0.outs : List (Ex × Shape) := [(.exit 0, { tmps := [(1, .one (.v (.int .i64)))], slots := [], nb := 0 }), (.ret, { tmps := [(4, .one (.v (.int .i64)))], slots := [], nb := 0 })]
def Zpc.l0.F (k j : Nat) (x : Za Zpc.l0.ish.tys) : Option (Zy Zpc.l0.outs) := Zpc.l0 j x.1 x.2.1 x.2.2
def Zpc.l0.s (k : Nat) : Summ := { n := 28, ish := Zpc.l0.ish, outs := Zpc.l0.outs, f := Zpc.l0.F k k }
theorem Zpc.l0.ev (k j : Nat) (x : Za Zpc.l0.ish.tys) : V (Zpc.C k) .auto (cO (cO (cR (cL (cR (cR (cR (cB Tryz.f27)))))))) (mk Zpc.l0.ish 28 x) (fun e st' => match e with | .nrm => (rd Zpc.l0.ish st').bind (Zpc.l0.F k j) | e => Z0 e st' Zpc.l0.outs) = Zpc.l0.F k (j + 1) x := by kernel_rfl
theorem Zpc.l0.ok (k : Nat) : Z1 Tryz.prog (Zpc.C k) (.loop (cO (cO (cR (cL (cR (cR (cR (cB Tryz.f27))))))))) (Zpc.l0.s k) := Z5 (by kernel_rfl) (sum_loop (p := .auto) (F := Zpc.l0.F k) (Zpc.cok k) (by kernel_rfl) (Zd (L := []) (by kernel_rfl) trivial) (fun _ => rfl) (fun j x y h => (Zpc.l0.ev k j x).trans h) k rfl)
theorem Zpc.ev (k : Nat) (x : Za Zpc.sig.ins) : Zpc.sig.ev (Zpc.C k) (.two .auto (.two .auto (.two .auto (.two (.two .auto (.one (.sum (Zpc.l0.s k)))) .auto)))) Tryz.f27.results.toList (cB Tryz.f27) x = Zpc k x.1 x.2 := by kernel_rfl
theorem Zpc.ok (k : Nat) : Zf Tryz.prog 27 (Zpc.con k) := Zk (p := (.two .auto (.two .auto (.two .auto (.two (.two .auto (.one (.sum (Zpc.l0.s k)))) .auto))))) (Zpc.cok k) Tryz.func27 (by kernel_rfl) (show Tryz.f27.body = some (cB Tryz.f27) by kernel_rfl) (by kernel_rfl) (by kernel_rfl) (Zd (L := [(Zpc.l0.s k, cO (cR (cL (cR (cR (cR (cB Tryz.f27)))))))]) (by kernel_rfl) ⟨Zpc.l0.ok k, trivial⟩) (fun x y h => (Zpc.ev k x).trans h)
def Zpg (a1 : Zld) (a2 : Int) : Option (Int) :=
 let e3 := IntKind.wrap .i64 (a2 - ((a1.2.length) : Int))
 bif decide (e3 < 0) then
  some (-1)
 else
 some e3
def Zpg.sig : Sig := { ps := [.val true Z7c (ros Z7c), .val false (.int .i64) (ros (.int .i64))], rs := [.val false [.v (.int .i64)]], ntmps := 13 }
def Zpg.con (k : Nat) : Con := Zpg.sig.con (fun x => Zpg x.1 x.2)
def Zpg.C (k : Nat) : Ctx := { ti := TAB, con := Zh [] }
theorem Zpg.cok (k : Nat) : CtxOk Tryz.prog (Zpg.C k) := Zj Zi trivial
theorem Zpg.ev (k : Nat) (x : Za Zpg.sig.ins) : Zpg.sig.ev (Zpg.C k) .auto Tryz.f57.results.toList (cB Tryz.f57) x = Zpg x.1 x.2 := by kernel_rfl
theorem Zpg.ok (k : Nat) : Zf Tryz.prog 57 (Zpg.con k) := Zk (p := .auto) (Zpg.cok k) Tryz.func57 (by kernel_rfl) (show Tryz.f57.body = some (cB Tryz.f57) by kernel_rfl) (by kernel_rfl) (by kernel_rfl) (Zd (L := []) (by kernel_rfl) trivial) (fun x y h => (Zpg.ev k x).trans h)
def Zmc.l0 : Nat → List Zld → Int → Int → Option (Int ⊕ Int)
 | 0, _, _, _ => none
 | j + 1, a1, a2, a3 =>
  bif decide (a3 < ((a1.length) : Int)) then
   Option.bind (at? a1 a3) fun v4 =>
   Option.bind (Zpg v4 a2) fun v5 =>
   bif decide (v5 < 0) then
    some (.inr (-1))
   else
   Zmc.l0 j a1 v5 (IntKind.wrap .i64 (a3 + 1))
  else
  some (.inl a2)
def Zmc (k : Nat) (a1 : List Zld) (a2 : Int) : Option (Int) :=
 let e3 := IntKind.wrap .i64 (a2 - ((a1.length) : Int))
 bif decide (e3 < 0) then
  some (-1)
 else
 Option.bind (Zmc.l0 k a1 e3 0) fun
  | .inl y4 =>
   some y4
  | .inr y5 =>
   some y5
def Zmc.sig : Sig := { ps := [.val false (.sl Z7c) (ros (.sl Z7c)), .val false (.int .i64) (ros (.int .i64))], rs := [.val false [.v (.int .i64)]], ntmps := 27 }
def Zmc.con (k : Nat) : Con := Zmc.sig.con (fun x => Zmc k x.1 x.2)
def Zmc.C (k : Nat) : Ctx := { ti := TAB, con := Zh [(57, Zpg.con k)] }
theorem Zmc.cok (k : Nat) : CtxOk Tryz.prog (Zmc.C k) := Zj Zi ⟨Zpg.ok k, trivial⟩
def Zmc.l0.ish : Shape := { tmps := [(0, .one (.bor Z7c)), (1, .one (.v (.int .i64))), (5, .one (.v (.int .i64)))], slots := [], nb := 0 }
def Zmc.l0.outs : List (Ex × Shape) := [(.exit 0, { tmps := [(1, .one (.v (.int .i64)))], slots := [], nb := 0 }), (.ret, { tmps := [(4, .one (.v (.int .i64)))], slots := [], nb := 0 })]
def Zmc.l0.F (k j : Nat) (x : Za Zmc.l0.ish.tys) : Option (Zy Zmc.l0.outs) := Zmc.l0 j x.1 x.2.1 x.2.2
def Zmc.l0.s (k : Nat) : Summ := { n := 27, ish := Zmc.l0.ish, outs := Zmc.l0.outs, f := Zmc.l0.F k k }
theorem Zmc.l0.ev (k j : Nat) (x : Za Zmc.l0.ish.tys) : V (Zmc.C k) .auto (cO (cO (cR (cL (cR (cR (cR (cB Tryz.f28)))))))) (mk Zmc.l0.ish 27 x) (fun e st' => match e with | .nrm => (rd Zmc.l0.ish st').bind (Zmc.l0.F k j) | e => Z0 e st' Zmc.l0.outs) = Zmc.l0.F k (j + 1) x := by kernel_rfl
theorem Zmc.l0.ok (k : Nat) : Z1 Tryz.prog (Zmc.C k) (.loop (cO (cO (cR (cL (cR (cR (cR (cB Tryz.f28))))))))) (Zmc.l0.s k) := Z5 (by kernel_rfl) (sum_loop (p := .auto) (F := Zmc.l0.F k) (Zmc.cok k) (by kernel_rfl) (Zd (L := []) (by kernel_rfl) trivial) (fun _ => rfl) (fun j x y h => (Zmc.l0.ev k j x).trans h) k rfl)
theorem Zmc.ev (k : Nat) (x : Za Zmc.sig.ins) : Zmc.sig.ev (Zmc.C k) (.two .auto (.two .auto (.two .auto (.two (.two .auto (.one (.sum (Zmc.l0.s k)))) .auto)))) Tryz.f28.results.toList (cB Tryz.f28) x = Zmc k x.1 x.2 := by kernel_rfl
theorem Zmc.ok (k : Nat) : Zf Tryz.prog 28 (Zmc.con k) := Zk (p := (.two .auto (.two .auto (.two .auto (.two (.two .auto (.one (.sum (Zmc.l0.s k)))) .auto))))) (Zmc.cok k) Tryz.func28 (by kernel_rfl) (show Tryz.f28.body = some (cB Tryz.f28) by kernel_rfl) (by kernel_rfl) (by kernel_rfl) (Zd (L := [(Zmc.l0.s k, cO (cR (cL (cR (cR (cR (cB Tryz.f28)))))))]) (by kernel_rfl) ⟨Zmc.l0.ok k, trivial⟩) (fun x y h => (Zmc.ev k x).trans h)
def Zlg (k : Nat) (a1 : G30) (a2 : Int) : Option (Int) :=
 Option.bind (Zpc k a1.1 a2) fun v3 =>
 bif decide (v3 < 0) then
  some (-1)
 else
 Option.bind (Zmc k a1.2 v3) fun v4 =>
 bif decide (v4 < 0) then
  some (-1)
 else
 some v4
def Zlg.sig : Sig := { ps := [.val true T30 (ros T30), .val false (.int .i64) (ros (.int .i64))], rs := [.val false [.v (.int .i64)]], ntmps := 18 }
def Zlg.con (k : Nat) : Con := Zlg.sig.con (fun x => Zlg k x.1 x.2)
def Zlg.C (k : Nat) : Ctx := { ti := TAB, con := Zh [(27, Zpc.con k), (28, Zmc.con k)], rob := true }
theorem Zlg.cok (k : Nat) : CtxOk Tryz.prog (Zlg.C k) := Zj Zi ⟨Zpc.ok k, Zmc.ok k, trivial⟩
theorem Zlg.ev (k : Nat) (x : Za Zlg.sig.ins) : Zlg.sig.ev (Zlg.C k) .auto Tryz.f14.results.toList (cB Tryz.f14) x = Zlg k x.1 x.2 := by kernel_rfl
theorem Zlg.ok (k : Nat) : Zf Tryz.prog 14 (Zlg.con k) := Zk (p := .auto) (Zlg.cok k) Tryz.func14 (by kernel_rfl) (show Tryz.f14.body = some (cB Tryz.f14) by kernel_rfl) (by kernel_rfl) (by kernel_rfl) (Zd (L := []) (by kernel_rfl) trivial) (fun x y h => (Zlg.ev k x).trans h)
def Zvg (k : Nat) (a1 : G32) (a2 : Int) : Option (Int) :=
 Option.bind (Zlg k a1.2 a2) fun v3 =>
 bif decide (v3 < 0) then
  some (-1)
 else
 some v3
def Zvg.sig : Sig := { ps := [.val true T32 (ros T32), .val false (.int .i64) (ros (.int .i64))], rs := [.val false [.v (.int .i64)]], ntmps := 12 }
def Zvg.con (k : Nat) : Con := Zvg.sig.con (fun x => Zvg k x.1 x.2)
def Zvg.C (k : Nat) : Ctx := { ti := TAB, con := Zh [(14, Zlg.con k)], rob := true }
theorem Zvg.cok (k : Nat) : CtxOk Tryz.prog (Zvg.C k) := Zj Zi ⟨Zlg.ok k, trivial⟩
theorem Zvg.ev (k : Nat) (x : Za Zvg.sig.ins) : Zvg.sig.ev (Zvg.C k) .auto Tryz.f5.results.toList (cB Tryz.f5) x = Zvg k x.1 x.2 := by kernel_rfl
theorem Zvg.ok (k : Nat) : Zf Tryz.prog 5 (Zvg.con k) := Zk (p := .auto) (Zvg.cok k) Tryz.func5 (by kernel_rfl) (show Tryz.f5.body = some (cB Tryz.f5) by kernel_rfl) (by kernel_rfl) (by kernel_rfl) (Zd (L := []) (by kernel_rfl) trivial) (fun x y h => (Zvg.ev k x).trans h)
def Znb (a1 : Int) (a2 : Int) (a3 : Int) : Option (Bool) :=
 some ((decide (a2 ≤ a1)) && (decide (a1 ≤ a3)))
def Znb.sig : Sig := { ps := [.val false (.int .i64) (ros (.int .i64)), .val false (.int .i64) (ros (.int .i64)), .val false (.int .i64) (ros (.int .i64))], rs := [.val false [.v .bool]], ntmps := 15 }
def Znb.con (k : Nat) : Con := Znb.sig.con (fun x => Znb x.1 x.2.1 x.2.2)
def Znb.C (k : Nat) : Ctx := { ti := TAB, con := Zh [] }
theorem Znb.cok (k : Nat) : CtxOk Tryz.prog (Znb.C k) := Zj Zi trivial
theorem Znb.ev (k : Nat) (x : Za Znb.sig.ins) : Znb.sig.ev (Znb.C k) .auto Tryz.f59.results.toList (cB Tryz.f59) x = Znb x.1 x.2.1 x.2.2 := by kernel_rfl
theorem Znb.ok (k : Nat) : Zf Tryz.prog 59 (Znb.con k) := Zk (p := .auto) (Znb.cok k) Tryz.func59 (by kernel_rfl) (show Tryz.f59.body = some (cB Tryz.f59) by kernel_rfl) (by kernel_rfl) (by kernel_rfl) (Zd (L := []) (by kernel_rfl) trivial) (fun x y h => (Znb.ev k x).trans h)
def Z8d (a1 : G36) (a2 : Int) : Option (Bool) :=
 Option.bind (Znb a2 1 8) fun v3 =>
 bif !v3 then
  some false
 else
 let e4 := IntKind.wrap .i64 (a2 - 1)
 Option.bind (Znb a1.2.1 0 e4) fun v5 =>
 Option.bind (Znb a1.2.2.1 0 e4) fun v6 =>
 let e7 := a1.2.2.2 == []
 let e8 := v5 && (a1.2.2.1 == 0)
 bif a1.1 == 1 then
  some (e8 && e7)
 else
 let e9 := ((a1.2.2.2.length) : Int) == 8
 bif a1.1 == 2 then
  some (e8 && e9)
 else
 bif a1.1 == 3 then
  some ((v5 && v6) && e7)
 else
 bif a1.1 == 4 then
  some ((v5 && v6) && e9)
 else
 bif a1.1 == 5 then
  bif a1.2.1 == 0 then
   Option.bind (Znb a1.2.2.1 0 1000000) fun v10 =>
   some (v10 && e7)
  else
  some false
 else
 some false
def Z8d.sig : Sig := { ps := [.val true T36 (ros T36), .val false (.int .i64) (ros (.int .i64))], rs := [.val false [.v .bool]], ntmps := 87 }
def Z8d.con (k : Nat) : Con := Z8d.sig.con (fun x => Z8d x.1 x.2)
def Z8d.C (k : Nat) : Ctx := { ti := TAB, con := Zh [(59, Znb.con k)] }
theorem Z8d.cok (k : Nat) : CtxOk Tryz.prog (Z8d.C k) := Zj Zi ⟨Znb.ok k, trivial⟩
theorem Z8d.ev (k : Nat) (x : Za Z8d.sig.ins) : Z8d.sig.ev (Z8d.C k) .auto Tryz.f96.results.toList (cB Tryz.f96) x = Z8d x.1 x.2 := by kernel_rfl
theorem Z8d.ok (k : Nat) : Zf Tryz.prog 96 (Z8d.con k) := Zk (p := .auto) (Z8d.cok k) Tryz.func96 (by kernel_rfl) (show Tryz.f96.body = some (cB Tryz.f96) by kernel_rfl) (by kernel_rfl) (by kernel_rfl) (Zd (L := []) (by kernel_rfl) trivial) (fun x y h => (Z8d.ev k x).trans h)
def Zg.l0 : Nat → List G36 → Int → Int → Option (Unit ⊕ Int)
 | 0, _, _, _ => none
 | j + 1, a1, a2, a3 =>
  bif decide (a3 < ((a1.length) : Int)) then
   Option.bind (at? a1 a3) fun v4 =>
   Option.bind (Z8d v4 a2) fun v5 =>
   bif !v5 then
    some (.inr 1)
   else
   Zg.l0 j a1 a2 (IntKind.wrap .i64 (a3 + 1))
  else
  some (.inl ())
def Zg.l1 : Nat → List G36 → Int → Int → Option (Unit ⊕ Int)
 | 0, _, _, _ => none
 | j + 1, a1, a2, a3 =>
  bif decide (a3 < a2) then
   Option.bind (at? a1 a2) fun v4 =>
   let e5 := IntKind.wrap .i64 (a3 + 1)
   bif v4.1 != 5 then
    Option.bind (at? a1 a3) fun v6 =>
    bif v6.1 != 5 then
     Option.bind (at? a1 a2) fun v7 =>
     Option.bind (at? a1 a3) fun v8 =>
     bif v7.2.1 == v8.2.1 then
      some (.inr 12)
     else
     Zg.l1 j a1 a2 e5
    else
    Zg.l1 j a1 a2 e5
   else
   Zg.l1 j a1 a2 e5
  else
  some (.inl ())
def Zg.l2 (k : Nat) : Nat → List G36 → Int → Option (Unit ⊕ Int)
 | 0, _, _ => none
 | j + 1, a1, a2 =>
  bif decide (a2 < ((a1.length) : Int)) then
   Option.bind (Zg.l1 k a1 a2 0) fun
    | .inl y3 =>
     Zg.l2 k j a1 (IntKind.wrap .i64 (a2 + 1))
    | .inr y4 =>
     some (.inr y4)
  else
  some (.inl ())
def Zg.l3 : Nat → List G36 → Int → Int → Option (Unit ⊕ Int)
 | 0, _, _, _ => none
 | j + 1, a1, a2, a3 =>
  bif decide (a3 < ((a1.length) : Int)) then
   Option.bind (at? a1 a3) fun v4 =>
   let e5 := IntKind.wrap .i64 (a3 + 1)
   bif v4.1 != 5 then
    Zg.l3 j a1 a2 e5
   else
   Option.bind (at? a1 a3) fun v6 =>
   bif decide (v6.2.2.1 ≤ a2) then
    some (.inr 8)
   else
   Option.bind (at? a1 a3) fun v7 =>
   Zg.l3 j a1 v7.2.2.1 e5
  else
  some (.inl ())
def Zg (k : Nat) (a1 : List G36) (a2 : Int) : Option (Int) :=
 bif decide (20 < ((a1.length) : Int)) then
  some 1
 else
 Option.bind (Znb a2 1 8) fun v3 =>
 bif !v3 then
  some 1
 else
 Option.bind (Zg.l0 k a1 a2 0) fun
  | .inl y4 =>
   Option.bind (Zg.l2 k k a1 0) fun
    | .inl y5 =>
     Option.bind (Zg.l3 k a1 (-1) 0) fun
      | .inl y6 =>
       some 0
      | .inr y7 =>
       some y7
    | .inr y8 =>
     some y8
  | .inr y9 =>
   some y9
def Zg.sig : Sig := { ps := [.val false (.sl T36) (ros (.sl T36)), .val false (.int .i64) (ros (.int .i64))], rs := [.val false [.v (.int .i64)]], ntmps := 93 }
def Zg.con (k : Nat) : Con := Zg.sig.con (fun x => Zg k x.1 x.2)
def Zg.C (k : Nat) : Ctx := { ti := TAB, con := Zh [(59, Znb.con k), (96, Z8d.con k)] }
theorem Zg.cok (k : Nat) : CtxOk Tryz.prog (Zg.C k) := Zj Zi ⟨Znb.ok k, Z8d.ok k, trivial⟩
def Zg.l0.ish : Shape := { tmps := [(0, .one (.bor T36)), (1, .one (.v (.int .i64))), (5, .one (.v (.int .i64)))], slots := [], nb := 0 }
def Zg.l0.outs : List (Ex × Shape) := [(.exit 0, { tmps := [], slots := [], nb := 0 }), (.ret, { tmps := [(4, .one (.v (.int .i64)))], slots := [], nb := 0 })]
def Zg.l0.F (k j : Nat) (x : Za Zg.l0.ish.tys) : Option (Zy Zg.l0.outs) := Zg.l0 j x.1 x.2.1 x.2.2
def Zg.l0.s (k : Nat) : Summ := { n := 93, ish := Zg.l0.ish, outs := Zg.l0.outs, f := Zg.l0.F k k }
theorem Zg.l0.ev (k j : Nat) (x : Za Zg.l0.ish.tys) : V (Zg.C k) .auto (cO (cO (cR (cL (cR (cR (cB Tryz.f58))))))) (mk Zg.l0.ish 93 x) (fun e st' => match e with | .nrm => (rd Zg.l0.ish st').bind (Zg.l0.F k j) | e => Z0 e st' Zg.l0.outs) = Zg.l0.F k (j + 1) x := by kernel_rfl
theorem Zg.l0.ok (k : Nat) : Z1 Tryz.prog (Zg.C k) (.loop (cO (cO (cR (cL (cR (cR (cB Tryz.f58)))))))) (Zg.l0.s k) := Z5 (by kernel_rfl) (sum_loop (p := .auto) (F := Zg.l0.F k) (Zg.cok k) (by kernel_rfl) (Zd (L := []) (by kernel_rfl) trivial) (fun _ => rfl) (fun j x y h => (Zg.l0.ev k j x).trans h) k rfl)
def Zg.l1.ish : Shape := { tmps := [(0, .one (.bor T36)), (6, .one (.v (.int .i64))), (7, .one (.v (.int .i64)))], slots := [], nb := 0 }
def Zg.l1.outs : List (Ex × Shape) := [(.exit 4, { tmps := [], slots := [], nb := 0 }), (.ret, { tmps := [(4, .one (.v (.int .i64)))], slots := [], nb := 0 })]
def Zg.l1.F (k j : Nat) (x : Za Zg.l1.ish.tys) : Option (Zy Zg.l1.outs) := Zg.l1 j x.1 x.2.1 x.2.2
def Zg.l1.s (k : Nat) : Summ := { n := 93, ish := Zg.l1.ish, outs := Zg.l1.outs, f := Zg.l1.F k k }
theorem Zg.l1.ev (k j : Nat) (x : Za Zg.l1.ish.tys) : V (Zg.C k) .auto (cO (cO (cR (cO (cL (cR (cO (cO (cR (cL (cR (cR (cR (cB Tryz.f58)))))))))))))) (mk Zg.l1.ish 93 x) (fun e st' => match e with | .nrm => (rd Zg.l1.ish st').bind (Zg.l1.F k j) | e => Z0 e st' Zg.l1.outs) = Zg.l1.F k (j + 1) x := by kernel_rfl
theorem Zg.l1.ok (k : Nat) : Z1 Tryz.prog (Zg.C k) (.loop (cO (cO (cR (cO (cL (cR (cO (cO (cR (cL (cR (cR (cR (cB Tryz.f58))))))))))))))) (Zg.l1.s k) := Z5 (by kernel_rfl) (sum_loop (p := .auto) (F := Zg.l1.F k) (Zg.cok k) (by kernel_rfl) (Zd (L := []) (by kernel_rfl) trivial) (fun _ => rfl) (fun j x y h => (Zg.l1.ev k j x).trans h) k rfl)
def Zg.l2.ish : Shape := { tmps := [(0, .one (.bor T36)), (6, .one (.v (.int .i64)))], slots := [], nb := 0 }
def Zg.l2.outs : List (Ex × Shape) := [(.exit 2, { tmps := [], slots := [], nb := 0 }), (.ret, { tmps := [(4, .one (.v (.int .i64)))], slots := [], nb := 0 })]
def Zg.l2.F (k j : Nat) (x : Za Zg.l2.ish.tys) : Option (Zy Zg.l2.outs) := Zg.l2 k j x.1 x.2
def Zg.l2.s (k : Nat) : Summ := { n := 93, ish := Zg.l2.ish, outs := Zg.l2.outs, f := Zg.l2.F k k }
theorem Zg.l2.ev (k j : Nat) (x : Za Zg.l2.ish.tys) : V (Zg.C k) (.two .auto (.two (.one (.two .auto (.one (.sum (Zg.l1.s k))))) .auto)) (cO (cO (cR (cL (cR (cR (cR (cB Tryz.f58)))))))) (mk Zg.l2.ish 93 x) (fun e st' => match e with | .nrm => (rd Zg.l2.ish st').bind (Zg.l2.F k j) | e => Z0 e st' Zg.l2.outs) = Zg.l2.F k (j + 1) x := by kernel_rfl
theorem Zg.l2.ok (k : Nat) : Z1 Tryz.prog (Zg.C k) (.loop (cO (cO (cR (cL (cR (cR (cR (cB Tryz.f58))))))))) (Zg.l2.s k) := Z5 (by kernel_rfl) (sum_loop (p := (.two .auto (.two (.one (.two .auto (.one (.sum (Zg.l1.s k))))) .auto))) (F := Zg.l2.F k) (Zg.cok k) (by kernel_rfl) (Zd (L := [(Zg.l1.s k, cO (cR (cO (cL (cR (cO (cO (cR (cL (cR (cR (cR (cB Tryz.f58)))))))))))))]) (by kernel_rfl) ⟨Zg.l1.ok k, trivial⟩) (fun _ => rfl) (fun j x y h => (Zg.l2.ev k j x).trans h) k rfl)
def Zg.l3.ish : Shape := { tmps := [(0, .one (.bor T36)), (8, .one (.v (.int .i64))), (9, .one (.v (.int .i64)))], slots := [], nb := 0 }
def Zg.l3.outs : List (Ex × Shape) := [(.exit 6, { tmps := [], slots := [], nb := 0 }), (.ret, { tmps := [(4, .one (.v (.int .i64)))], slots := [], nb := 0 })]
def Zg.l3.F (k j : Nat) (x : Za Zg.l3.ish.tys) : Option (Zy Zg.l3.outs) := Zg.l3 j x.1 x.2.1 x.2.2
def Zg.l3.s (k : Nat) : Summ := { n := 93, ish := Zg.l3.ish, outs := Zg.l3.outs, f := Zg.l3.F k k }
theorem Zg.l3.ev (k j : Nat) (x : Za Zg.l3.ish.tys) : V (Zg.C k) .auto (cO (cO (cR (cL (cR (cR (cR (cR (cR (cB Tryz.f58)))))))))) (mk Zg.l3.ish 93 x) (fun e st' => match e with | .nrm => (rd Zg.l3.ish st').bind (Zg.l3.F k j) | e => Z0 e st' Zg.l3.outs) = Zg.l3.F k (j + 1) x := by kernel_rfl
theorem Zg.l3.ok (k : Nat) : Z1 Tryz.prog (Zg.C k) (.loop (cO (cO (cR (cL (cR (cR (cR (cR (cR (cB Tryz.f58))))))))))) (Zg.l3.s k) := Z5 (by kernel_rfl) (sum_loop (p := .auto) (F := Zg.l3.F k) (Zg.cok k) (by kernel_rfl) (Zd (L := []) (by kernel_rfl) trivial) (fun _ => rfl) (fun j x y h => (Zg.l3.ev k j x).trans h) k rfl)
theorem Zg.ev (k : Nat) (x : Za Zg.sig.ins) : Zg.sig.ev (Zg.C k) (.two .auto (.two .auto (.two (.two .auto (.one (.sum (Zg.l0.s k)))) (.two (.two .auto (.one (.sum (Zg.l2.s k)))) (.two .auto (.two (.two .auto (.one (.sum (Zg.l3.s k)))) .auto)))))) Tryz.f58.results.toList (cB Tryz.f58) x = Zg k x.1 x.2 := by kernel_rfl
theorem Zg.ok (k : Nat) : Zf Tryz.prog 58 (Zg.con k) := Zk (p := (.two .auto (.two .auto (.two (.two .auto (.one (.sum (Zg.l0.s k)))) (.two (.two .auto (.one (.sum (Zg.l2.s k)))) (.two .auto (.two (.two .auto (.one (.sum (Zg.l3.s k)))) .auto))))))) (Zg.cok k) Tryz.func58 (by kernel_rfl) (show Tryz.f58.body = some (cB Tryz.f58) by kernel_rfl) (by kernel_rfl) (by kernel_rfl) (Zd (L := [(Zg.l0.s k, cO (cR (cL (cR (cR (cB Tryz.f58)))))), (Zg.l2.s k, cO (cR (cL (cR (cR (cR (cB Tryz.f58))))))), (Zg.l3.s k, cO (cR (cL (cR (cR (cR (cR (cR (cB Tryz.f58)))))))))]) (by kernel_rfl) ⟨Zg.l0.ok k, Zg.l2.ok k, Zg.l3.ok k, trivial⟩) (fun x y h => (Zg.ev k x).trans h)
def Zqg (k : Nat) (a1 : G24) : Option (Bool) :=
 Option.bind (Zg k a1.2.2 a1.1) fun v2 =>
 some ((v2 == 0) && (((a1.2.1.length) : Int) == 32))
def Zqg.sig : Sig := { ps := [.val true T24 (ros T24)], rs := [.val false [.v .bool]], ntmps := 15 }
def Zqg.con (k : Nat) : Con := Zqg.sig.con (fun x => Zqg k x)
def Zqg.C (k : Nat) : Ctx := { ti := TAB, con := Zh [(58, Zg.con k)], rob := true }
theorem Zqg.cok (k : Nat) : CtxOk Tryz.prog (Zqg.C k) := Zj Zi ⟨Zg.ok k, trivial⟩
theorem Zqg.ev (k : Nat) (x : Za Zqg.sig.ins) : Zqg.sig.ev (Zqg.C k) .auto Tryz.f29.results.toList (cB Tryz.f29) x = Zqg k x := by kernel_rfl
theorem Zqg.ok (k : Nat) : Zf Tryz.prog 29 (Zqg.con k) := Zk (p := .auto) (Zqg.cok k) Tryz.func29 (by kernel_rfl) (show Tryz.f29.body = some (cB Tryz.f29) by kernel_rfl) (by kernel_rfl) (by kernel_rfl) (Zd (L := []) (by kernel_rfl) trivial) (fun x y h => (Zqg.ev k x).trans h)
def Zyf (a1 : G36) : Option (Bool) :=
 Option.bind (Znb a1.1 1 8) fun v2 =>
 bif v2 then
  Option.bind (Znb a1.2.1 1 20) fun v3 =>
  bif v3 then
   Option.bind (Znb a1.2.2.1 0 4) fun v4 =>
   some (v4 && (((a1.2.2.2.length) : Int) == 32))
  else
  some false
 else
 some false
def Zyf.sig : Sig := { ps := [.val true T36 (ros T36)], rs := [.val false [.v .bool]], ntmps := 22 }
def Zyf.con (k : Nat) : Con := Zyf.sig.con (fun x => Zyf x)
def Zyf.C (k : Nat) : Ctx := { ti := TAB, con := Zh [(59, Znb.con k)] }
theorem Zyf.cok (k : Nat) : CtxOk Tryz.prog (Zyf.C k) := Zj Zi ⟨Znb.ok k, trivial⟩
theorem Zyf.ev (k : Nat) (x : Za Zyf.sig.ins) : Zyf.sig.ev (Zyf.C k) .auto Tryz.f30.results.toList (cB Tryz.f30) x = Zyf x := by kernel_rfl
theorem Zyf.ok (k : Nat) : Zf Tryz.prog 30 (Zyf.con k) := Zk (p := .auto) (Zyf.cok k) Tryz.func30 (by kernel_rfl) (show Tryz.f30.body = some (cB Tryz.f30) by kernel_rfl) (by kernel_rfl) (by kernel_rfl) (Zd (L := []) (by kernel_rfl) trivial) (fun x y h => (Zyf.ev k x).trans h)
def Zyb.l0 : Nat → List G93 → Int → Int → Option (Int)
 | 0, _, _, _ => none
 | j + 1, a1, a2, a3 =>
  bif (decide (a3 < ((a1.length) : Int))) && (decide (((a1.length) : Int) ≤ 40)) then
   Option.bind (at? a1 a3) fun v4 =>
   let e5 := IntKind.wrap .i64 (a3 + 1)
   bif v4.1 == 1 then
    Zyb.l0 j a1 (IntKind.wrap .i64 (a2 + 1)) e5
   else
   Zyb.l0 j a1 a2 e5
  else
  some a2
def Zyb (k : Nat) (a1 : List G93) : Option (Int) :=
 Option.bind (Zyb.l0 k a1 0 0) fun y2 =>
 some y2
def Zyb.sig : Sig := { ps := [.val false (.sl T93) (ros (.sl T93))], rs := [.val false [.v (.int .i64)]], ntmps := 25 }
def Zyb.con (k : Nat) : Con := Zyb.sig.con (fun x => Zyb k x)
def Zyb.C (k : Nat) : Ctx := { ti := TAB, con := Zh [] }
theorem Zyb.cok (k : Nat) : CtxOk Tryz.prog (Zyb.C k) := Zj Zi trivial
def Zyb.l0.ish : Shape := { tmps := [(0, .one (.bor T93)), (3, .one (.v (.int .i64))), (4, .one (.v (.int .i64)))], slots := [], nb := 0 }
def Zyb.l0.outs : List (Ex × Shape) := [(.exit 0, { tmps := [(3, .one (.v (.int .i64)))], slots := [], nb := 0 })]
def Zyb.l0.F (k j : Nat) (x : Za Zyb.l0.ish.tys) : Option (Zy Zyb.l0.outs) := Zyb.l0 j x.1 x.2.1 x.2.2
def Zyb.l0.s (k : Nat) : Summ := { n := 25, ish := Zyb.l0.ish, outs := Zyb.l0.outs, f := Zyb.l0.F k k }
theorem Zyb.l0.ev (k j : Nat) (x : Za Zyb.l0.ish.tys) : V (Zyb.C k) .auto (cO (cO (cR (cL (cR (cR (cB Tryz.f60))))))) (mk Zyb.l0.ish 25 x) (fun e st' => match e with | .nrm => (rd Zyb.l0.ish st').bind (Zyb.l0.F k j) | e => Z0 e st' Zyb.l0.outs) = Zyb.l0.F k (j + 1) x := by kernel_rfl
theorem Zyb.l0.ok (k : Nat) : Z1 Tryz.prog (Zyb.C k) (.loop (cO (cO (cR (cL (cR (cR (cB Tryz.f60)))))))) (Zyb.l0.s k) := Z5 (by kernel_rfl) (sum_loop (p := .auto) (F := Zyb.l0.F k) (Zyb.cok k) (by kernel_rfl) (Zd (L := []) (by kernel_rfl) trivial) (fun _ => rfl) (fun j x y h => (Zyb.l0.ev k j x).trans h) k rfl)
theorem Zyb.ev (k : Nat) (x : Za Zyb.sig.ins) : Zyb.sig.ev (Zyb.C k) (.two .auto (.two .auto (.two (.two .auto (.one (.sum (Zyb.l0.s k)))) .auto))) Tryz.f60.results.toList (cB Tryz.f60) x = Zyb k x := by kernel_rfl
theorem Zyb.ok (k : Nat) : Zf Tryz.prog 60 (Zyb.con k) := Zk (p := (.two .auto (.two .auto (.two (.two .auto (.one (.sum (Zyb.l0.s k)))) .auto)))) (Zyb.cok k) Tryz.func60 (by kernel_rfl) (show Tryz.f60.body = some (cB Tryz.f60) by kernel_rfl) (by kernel_rfl) (by kernel_rfl) (Zd (L := [(Zyb.l0.s k, cO (cR (cL (cR (cR (cB Tryz.f60))))))]) (by kernel_rfl) ⟨Zyb.l0.ok k, trivial⟩) (fun x y h => (Zyb.ev k x).trans h)
def Z6b.l0 : Nat → List G36 → Int → List G36 → Option ((List G36))
 | 0, _, _, _ => none
 | j + 1, a1, a2, a3 =>
  bif (decide (a2 < ((a1.length) : Int))) && (decide (((a1.length) : Int) ≤ 20)) then
   Option.bind (at? a1 a2) fun v4 =>
   let e5 := IntKind.wrap .i64 (a2 + 1)
   bif v4.1 != 5 then
    Option.bind (at? a1 a2) fun v6 =>
    Option.bind (Z2d 40 a3 [v6]) fun v7 =>
    Z6b.l0 j a1 e5 v7
   else
   Z6b.l0 j a1 e5 a3
  else
  some a3
def Z6b (k : Nat) (a1 : List G36) : Option (List G36) :=
 Option.bind (Z6b.l0 k a1 0 []) fun y2 =>
 some y2
def Z6b.sig : Sig := { ps := [.val false (.sl T36) (ros (.sl T36))], rs := [.val false [.own 36 T36]], ntmps := 31 }
def Z6b.con (k : Nat) : Con := Z6b.sig.con (fun x => Z6b k x)
def Z6b.C (k : Nat) : Ctx := { ti := TAB, con := Zh [] }
theorem Z6b.cok (k : Nat) : CtxOk Tryz.prog (Z6b.C k) := Zj Zi trivial
def Z6b.l0.ish : Shape := { tmps := [(0, .one (.bor T36)), (3, .one (.own 1)), (4, .one (.v (.int .i64)))], slots := [(1, .arr false 36 T36)], nb := 2 }
def Z6b.l0.outs : List (Ex × Shape) := [(.exit 0, { tmps := [(3, .one (.own 2))], slots := [(2, .arr false 36 T36)], nb := 3 })]
def Z6b.l0.F (k j : Nat) (x : Za Z6b.l0.ish.tys) : Option (Zy Z6b.l0.outs) := Z6b.l0 j x.1 x.2.1 x.2.2
def Z6b.l0.s (k : Nat) : Summ := { n := 31, ish := Z6b.l0.ish, outs := Z6b.l0.outs, f := Z6b.l0.F k k }
theorem Z6b.l0.ev (k j : Nat) (x : Za Z6b.l0.ish.tys) : V (Z6b.C k) .auto (cO (cO (cR (cL (cR (cR (cB Tryz.f130))))))) (mk Z6b.l0.ish 31 x) (fun e st' => match e with | .nrm => (rd Z6b.l0.ish st').bind (Z6b.l0.F k j) | e => Z0 e st' Z6b.l0.outs) = Z6b.l0.F k (j + 1) x := by kernel_rfl
theorem Z6b.l0.ok (k : Nat) : Z1 Tryz.prog (Z6b.C k) (.loop (cO (cO (cR (cL (cR (cR (cB Tryz.f130)))))))) (Z6b.l0.s k) := Z5 (by kernel_rfl) (sum_loop (p := .auto) (F := Z6b.l0.F k) (Z6b.cok k) (by kernel_rfl) (Zd (L := []) (by kernel_rfl) trivial) (fun _ => rfl) (fun j x y h => (Z6b.l0.ev k j x).trans h) k rfl)
theorem Z6b.ev (k : Nat) (x : Za Z6b.sig.ins) : Z6b.sig.ev (Z6b.C k) (.two .auto (.two .auto (.two (.two .auto (.one (.sum (Z6b.l0.s k)))) .auto))) Tryz.f130.results.toList (cB Tryz.f130) x = Z6b k x := by kernel_rfl
theorem Z6b.ok (k : Nat) : Zf Tryz.prog 130 (Z6b.con k) := Zk (p := (.two .auto (.two .auto (.two (.two .auto (.one (.sum (Z6b.l0.s k)))) .auto)))) (Z6b.cok k) Tryz.func130 (by kernel_rfl) (show Tryz.f130.body = some (cB Tryz.f130) by kernel_rfl) (by kernel_rfl) (by kernel_rfl) (Zd (L := [(Z6b.l0.s k, cO (cR (cL (cR (cR (cB Tryz.f130))))))]) (by kernel_rfl) ⟨Z6b.l0.ok k, trivial⟩) (fun x y h => (Z6b.ev k x).trans h)
def Zhh (a1 : G36) (a2 : Int) : Option (Bool) :=
 some (((a1.1 == 3) || (a1.1 == 4)) && (a1.2.2.1 == a2))
def Zhh.sig : Sig := { ps := [.val true T36 (ros T36), .val false (.int .i64) (ros (.int .i64))], rs := [.val false [.v .bool]], ntmps := 19 }
def Zhh.con (k : Nat) : Con := Zhh.sig.con (fun x => Zhh x.1 x.2)
def Zhh.C (k : Nat) : Ctx := { ti := TAB, con := Zh [] }
theorem Zhh.cok (k : Nat) : CtxOk Tryz.prog (Zhh.C k) := Zj Zi trivial
theorem Zhh.ev (k : Nat) (x : Za Zhh.sig.ins) : Zhh.sig.ev (Zhh.C k) .auto Tryz.f177.results.toList (cB Tryz.f177) x = Zhh x.1 x.2 := by kernel_rfl
theorem Zhh.ok (k : Nat) : Zf Tryz.prog 177 (Zhh.con k) := Zk (p := .auto) (Zhh.cok k) Tryz.func177 (by kernel_rfl) (show Tryz.f177.body = some (cB Tryz.f177) by kernel_rfl) (by kernel_rfl) (by kernel_rfl) (Zd (L := []) (by kernel_rfl) trivial) (fun x y h => (Zhh.ev k x).trans h)
def Zhb.l0 : Nat → List G36 → List Bool → Int → Int → Option (Unit ⊕ Bool)
 | 0, _, _, _, _ => none
 | j + 1, a1, a2, a3, a4 =>
  bif decide (a4 < ((a1.length) : Int)) then
   let e5 := IntKind.wrap .i64 (a4 + 1)
   bif a4 != a3 then
    Option.bind (at? a2 a4) fun v6 =>
    bif v6 then
     Option.bind (at? a1 a4) fun v7 =>
     Option.bind (at? a1 a3) fun v8 =>
     Option.bind (Zhh v7 v8.2.1) fun v9 =>
     bif v9 then
      some (.inr true)
     else
     Zhb.l0 j a1 a2 a3 e5
    else
    Zhb.l0 j a1 a2 a3 e5
   else
   Zhb.l0 j a1 a2 a3 e5
  else
  some (.inl ())
def Zhb (k : Nat) (a1 : List G36) (a2 : List Bool) (a3 : List Bool) (a4 : Int) : Option (Bool) :=
 Option.bind (at? a1 a4) fun v5 =>
 Option.bind (at? a3 v5.2.1) fun v6 =>
 bif v6 then
  some false
 else
 Option.bind (Zhb.l0 k a1 a2 a4 0) fun
  | .inl y7 =>
   some false
  | .inr y8 =>
   some y8
def Zhb.sig : Sig := { ps := [.val false (.sl T36) (ros (.sl T36)), .val false (.sl .bool) (ros (.sl .bool)), .val false (.sl .bool) (ros (.sl .bool)), .val false (.int .i64) (ros (.int .i64))], rs := [.val false [.v .bool]], ntmps := 45 }
def Zhb.con (k : Nat) : Con := Zhb.sig.con (fun x => Zhb k x.1 x.2.1 x.2.2.1 x.2.2.2)
def Zhb.C (k : Nat) : Ctx := { ti := TAB, con := Zh [(177, Zhh.con k)] }
theorem Zhb.cok (k : Nat) : CtxOk Tryz.prog (Zhb.C k) := Zj Zi ⟨Zhh.ok k, trivial⟩
def Zhb.l0.ish : Shape := { tmps := [(0, .one (.bor T36)), (1, .one (.bor .bool)), (3, .one (.v (.int .i64))), (9, .one (.v (.int .i64)))], slots := [], nb := 0 }
def Zhb.l0.outs : List (Ex × Shape) := [(.exit 0, { tmps := [], slots := [], nb := 0 }), (.ret, { tmps := [(8, .one (.v .bool))], slots := [], nb := 0 })]
def Zhb.l0.F (k j : Nat) (x : Za Zhb.l0.ish.tys) : Option (Zy Zhb.l0.outs) := Zhb.l0 j x.1 x.2.1 x.2.2.1 x.2.2.2
def Zhb.l0.s (k : Nat) : Summ := { n := 45, ish := Zhb.l0.ish, outs := Zhb.l0.outs, f := Zhb.l0.F k k }
theorem Zhb.l0.ev (k j : Nat) (x : Za Zhb.l0.ish.tys) : V (Zhb.C k) .auto (cO (cO (cR (cL (cR (cR (cB Tryz.f157))))))) (mk Zhb.l0.ish 45 x) (fun e st' => match e with | .nrm => (rd Zhb.l0.ish st').bind (Zhb.l0.F k j) | e => Z0 e st' Zhb.l0.outs) = Zhb.l0.F k (j + 1) x := by kernel_rfl
theorem Zhb.l0.ok (k : Nat) : Z1 Tryz.prog (Zhb.C k) (.loop (cO (cO (cR (cL (cR (cR (cB Tryz.f157)))))))) (Zhb.l0.s k) := Z5 (by kernel_rfl) (sum_loop (p := .auto) (F := Zhb.l0.F k) (Zhb.cok k) (by kernel_rfl) (Zd (L := []) (by kernel_rfl) trivial) (fun _ => rfl) (fun j x y h => (Zhb.l0.ev k j x).trans h) k rfl)
theorem Zhb.ev (k : Nat) (x : Za Zhb.sig.ins) : Zhb.sig.ev (Zhb.C k) (.two .auto (.two .auto (.two (.two .auto (.one (.sum (Zhb.l0.s k)))) .auto))) Tryz.f157.results.toList (cB Tryz.f157) x = Zhb k x.1 x.2.1 x.2.2.1 x.2.2.2 := by kernel_rfl
theorem Zhb.ok (k : Nat) : Zf Tryz.prog 157 (Zhb.con k) := Zk (p := (.two .auto (.two .auto (.two (.two .auto (.one (.sum (Zhb.l0.s k)))) .auto)))) (Zhb.cok k) Tryz.func157 (by kernel_rfl) (show Tryz.f157.body = some (cB Tryz.f157) by kernel_rfl) (by kernel_rfl) (by kernel_rfl) (Zd (L := [(Zhb.l0.s k, cO (cR (cL (cR (cR (cB Tryz.f157))))))]) (by kernel_rfl) ⟨Zhb.l0.ok k, trivial⟩) (fun x y h => (Zhb.ev k x).trans h)
def Zpb.l0 (k : Nat) : Nat → List G36 → List Bool → List Bool → Int → Int → Int → Option ((Int × Int))
 | 0, _, _, _, _, _, _ => none
 | j + 1, a1, a2, a3, a4, a5, a6 =>
  bif decide (a6 < ((a1.length) : Int)) then
   Option.bind (at? a2 a6) fun v7 =>
   let e8 := IntKind.wrap .i64 (a6 + 1)
   bif !v7 then
    Zpb.l0 k j a1 a2 a3 a4 a5 e8
   else
   bif decide (a5 < 0) then
    bif decide (a4 < 0) then
     Option.bind (Zhb k a1 a2 a3 a6) fun v9 =>
     bif !v9 then
      Zpb.l0 k j a1 a2 a3 a6 a6 e8
     else
     Zpb.l0 k j a1 a2 a3 a4 a6 e8
    else
    Zpb.l0 k j a1 a2 a3 a4 a6 e8
   else
   bif decide (a4 < 0) then
    Option.bind (Zhb k a1 a2 a3 a6) fun v10 =>
    bif !v10 then
     Zpb.l0 k j a1 a2 a3 a6 a5 e8
    else
    Zpb.l0 k j a1 a2 a3 a4 a5 e8
   else
   Zpb.l0 k j a1 a2 a3 a4 a5 e8
  else
  some (a4, a5)
def Zpb (k : Nat) (a1 : List G36) (a2 : List Bool) (a3 : List Bool) : Option (Int × Int) :=
 Option.bind (Zpb.l0 k k a1 a2 a3 (-1) (-1) 0) fun y4 =>
 some (y4.1, y4.2)
def Zpb.sig : Sig := { ps := [.val false (.sl T36) (ros (.sl T36)), .val false (.sl .bool) (ros (.sl .bool)), .val false (.sl .bool) (ros (.sl .bool))], rs := [.val false [.v (.int .i64)], .val false [.v (.int .i64)]], ntmps := 38 }
def Zpb.con (k : Nat) : Con := Zpb.sig.con (fun x => Zpb k x.1 x.2.1 x.2.2)
def Zpb.C (k : Nat) : Ctx := { ti := TAB, con := Zh [(157, Zhb.con k)] }
theorem Zpb.cok (k : Nat) : CtxOk Tryz.prog (Zpb.C k) := Zj Zi ⟨Zhb.ok k, trivial⟩
def Zpb.l0.ish : Shape := { tmps := [(0, .one (.bor T36)), (1, .one (.bor .bool)), (2, .one (.bor .bool)), (8, .one (.v (.int .i64))), (9, .one (.v (.int .i64))), (10, .one (.v (.int .i64)))], slots := [], nb := 0 }
def Zpb.l0.outs : List (Ex × Shape) := [(.exit 0, { tmps := [(8, .one (.v (.int .i64))), (9, .one (.v (.int .i64)))], slots := [], nb := 0 })]
def Zpb.l0.F (k j : Nat) (x : Za Zpb.l0.ish.tys) : Option (Zy Zpb.l0.outs) := Zpb.l0 k j x.1 x.2.1 x.2.2.1 x.2.2.2.1 x.2.2.2.2.1 x.2.2.2.2.2
def Zpb.l0.s (k : Nat) : Summ := { n := 38, ish := Zpb.l0.ish, outs := Zpb.l0.outs, f := Zpb.l0.F k k }
theorem Zpb.l0.ev (k j : Nat) (x : Za Zpb.l0.ish.tys) : V (Zpb.C k) .auto (cO (cO (cR (cL (cR (cR (cB Tryz.f131))))))) (mk Zpb.l0.ish 38 x) (fun e st' => match e with | .nrm => (rd Zpb.l0.ish st').bind (Zpb.l0.F k j) | e => Z0 e st' Zpb.l0.outs) = Zpb.l0.F k (j + 1) x := by kernel_rfl
theorem Zpb.l0.ok (k : Nat) : Z1 Tryz.prog (Zpb.C k) (.loop (cO (cO (cR (cL (cR (cR (cB Tryz.f131)))))))) (Zpb.l0.s k) := Z5 (by kernel_rfl) (sum_loop (p := .auto) (F := Zpb.l0.F k) (Zpb.cok k) (by kernel_rfl) (Zd (L := []) (by kernel_rfl) trivial) (fun _ => rfl) (fun j x y h => (Zpb.l0.ev k j x).trans h) k rfl)
theorem Zpb.ev (k : Nat) (x : Za Zpb.sig.ins) : Zpb.sig.ev (Zpb.C k) (.two .auto (.two .auto (.two (.two .auto (.one (.sum (Zpb.l0.s k)))) .auto))) Tryz.f131.results.toList (cB Tryz.f131) x = Zpb k x.1 x.2.1 x.2.2 := by kernel_rfl
theorem Zpb.ok (k : Nat) : Zf Tryz.prog 131 (Zpb.con k) := Zk (p := (.two .auto (.two .auto (.two (.two .auto (.one (.sum (Zpb.l0.s k)))) .auto)))) (Zpb.cok k) Tryz.func131 (by kernel_rfl) (show Tryz.f131.body = some (cB Tryz.f131) by kernel_rfl) (by kernel_rfl) (by kernel_rfl) (Zd (L := [(Zpb.l0.s k, cO (cR (cL (cR (cR (cB Tryz.f131))))))]) (by kernel_rfl) ⟨Zpb.l0.ok k, trivial⟩) (fun x y h => (Zpb.ev k x).trans h)
def Zt.l0 : Nat → Int → List G36 → List Bool → Option ((List G36 × List Bool))
 | 0, _, _, _ => none
 | j + 1, a1, a2, a3 =>
  bif decide (a1 < ((a2.length) : Int)) then
   Option.bind (at? a3 a1) fun v4 =>
   Option.bind (at? a3 a1) fun v5 =>
   Zt.l0 j (IntKind.wrap .i64 (a1 + 1)) a2 (List.set a3 (Int.toNat a1) true)
  else
  some (a2, a3)
def Zt.l1 (k : Nat) : Nat → Int → List G36 → List Bool → List Bool → List G93 → Option ((List G93))
 | 0, _, _, _, _, _ => none
 | j + 1, a1, a2, a3, a4, a5 =>
  Option.bind (Zpb k a2 a3 a4) fun v6 =>
  bif decide (v6.2 < 0) then
   some a5
  else
  bif decide (0 ≤ v6.1) then
   let e7 := at? a2 v6.1
   Option.bind (e7) fun v8 =>
   Option.bind (e7) fun v9 =>
   Option.bind (Z2d 32 a5 [(2, (v6.1, (v9.2.1, 0)))]) fun v10 =>
   let e11 := at? a3 v6.1
   Option.bind (e11) fun v12 =>
   Option.bind (e11) fun v13 =>
   Zt.l1 k j a1 a2 (List.set a3 (Int.toNat v6.1) false) a4 v10
  else
  let e14 := at? a2 v6.2
  Option.bind (e14) fun v15 =>
  Option.bind (e14) fun v16 =>
  Option.bind (Z2d 32 a5 [(1, (v6.2, (v16.2.1, a1)))]) fun v17 =>
  Option.bind (e14) fun v18 =>
  Option.bind (e14) fun v19 =>
  let e20 := at? a4 v19.2.1
  Option.bind (e20) fun v21 =>
  Option.bind (e20) fun v22 =>
  Zt.l1 k j (IntKind.wrap .i64 (a1 + 1)) a2 a3 (List.set a4 (Int.toNat v19.2.1) true) v17
def Zt (k : Nat) (a1 : List G36) : Option (List G93) :=
 Option.bind (Z6b k a1) fun v2 =>
 Option.bind (Zji 1 ((v2.length) : Int) ((v2.length) : Int) false) fun v3 =>
 Option.bind (Zt.l0 k 0 v2 v3) fun y4 =>
 Option.bind (Zji 1 8 8 false) fun v5 =>
 Option.bind (Zt.l1 k k 0 y4.1 y4.2 v5 []) fun y6 =>
 some y6
def Zt.sig : Sig := { ps := [.val false (.sl T36) (ros (.sl T36))], rs := [.val false [.own 93 T93]], ntmps := 74 }
def Zt.con (k : Nat) : Con := Zt.sig.con (fun x => Zt k x)
def Zt.C (k : Nat) : Ctx := { ti := TAB, con := Zh [(130, Z6b.con k), (131, Zpb.con k)] }
theorem Zt.cok (k : Nat) : CtxOk Tryz.prog (Zt.C k) := Zj Zi ⟨Z6b.ok k, Zpb.ok k, trivial⟩
def Zt.l0.ish : Shape := { tmps := [(3, .one (.own 2)), (4, .one (.own 3)), (5, .one (.v (.int .i64)))], slots := [(2, .arr false 36 T36), (3, .arr false 4 .bool)], nb := 4 }
def Zt.l0.outs : List (Ex × Shape) := [(.exit 0, { tmps := [(3, .one (.own 4)), (4, .one (.own 5))], slots := [(4, .arr false 36 T36), (5, .arr false 4 .bool)], nb := 6 })]
def Zt.l0.F (k j : Nat) (x : Za Zt.l0.ish.tys) : Option (Zy Zt.l0.outs) := Zt.l0 j x.1 x.2.1 x.2.2
def Zt.l0.s (k : Nat) : Summ := { n := 74, ish := Zt.l0.ish, outs := Zt.l0.outs, f := Zt.l0.F k k }
theorem Zt.l0.ev (k j : Nat) (x : Za Zt.l0.ish.tys) : V (Zt.C k) .auto (cO (cO (cR (cL (cR (cR (cR (cB Tryz.f97)))))))) (mk Zt.l0.ish 74 x) (fun e st' => match e with | .nrm => (rd Zt.l0.ish st').bind (Zt.l0.F k j) | e => Z0 e st' Zt.l0.outs) = Zt.l0.F k (j + 1) x := by kernel_rfl
theorem Zt.l0.ok (k : Nat) : Z1 Tryz.prog (Zt.C k) (.loop (cO (cO (cR (cL (cR (cR (cR (cB Tryz.f97))))))))) (Zt.l0.s k) := Z5 (by kernel_rfl) (sum_loop (p := .auto) (F := Zt.l0.F k) (Zt.cok k) (by kernel_rfl) (Zd (L := []) (by kernel_rfl) trivial) (fun _ => rfl) (fun j x y h => (Zt.l0.ev k j x).trans h) k rfl)
def Zt.l1.ish : Shape := { tmps := [(3, .one (.own 8)), (4, .one (.own 9)), (6, .one (.own 10)), (7, .one (.own 11)), (8, .one (.v (.int .i64)))], slots := [(8, .arr false 36 T36), (9, .arr false 4 .bool), (10, .arr false 4 .bool), (11, .arr false 93 T93)], nb := 12 }
def Zt.l1.outs : List (Ex × Shape) := [(.ret, { tmps := [(2, .one (.own 12))], slots := [(12, .arr false 93 T93)], nb := 13 })]
def Zt.l1.F (k j : Nat) (x : Za Zt.l1.ish.tys) : Option (Zy Zt.l1.outs) := Zt.l1 k j x.1 x.2.1 x.2.2.1 x.2.2.2.1 x.2.2.2.2
def Zt.l1.s (k : Nat) : Summ := { n := 74, ish := Zt.l1.ish, outs := Zt.l1.outs, f := Zt.l1.F k k }
theorem Zt.l1.ev (k j : Nat) (x : Za Zt.l1.ish.tys) : V (Zt.C k) .auto (cO (cO (cR (cR (cR (cR (cR (cR (cR (cB Tryz.f97)))))))))) (mk Zt.l1.ish 74 x) (fun e st' => match e with | .nrm => (rd Zt.l1.ish st').bind (Zt.l1.F k j) | e => Z0 e st' Zt.l1.outs) = Zt.l1.F k (j + 1) x := by kernel_rfl
theorem Zt.l1.ok (k : Nat) : Z1 Tryz.prog (Zt.C k) (.loop (cO (cO (cR (cR (cR (cR (cR (cR (cR (cB Tryz.f97))))))))))) (Zt.l1.s k) := Z5 (by kernel_rfl) (sum_loop (p := .auto) (F := Zt.l1.F k) (Zt.cok k) (by kernel_rfl) (Zd (L := []) (by kernel_rfl) trivial) (fun _ => rfl) (fun j x y h => (Zt.l1.ev k j x).trans h) k rfl)
theorem Zt.ev (k : Nat) (x : Za Zt.sig.ins) : Zt.sig.ev (Zt.C k) (.two .auto (.two .auto (.two .auto (.two (.two .auto (.one (.sum (Zt.l0.s k)))) (.two .auto (.two .auto (.two .auto (.one (.sum (Zt.l1.s k)))))))))) Tryz.f97.results.toList (cB Tryz.f97) x = Zt k x := by kernel_rfl
theorem Zt.ok (k : Nat) : Zf Tryz.prog 97 (Zt.con k) := Zk (p := (.two .auto (.two .auto (.two .auto (.two (.two .auto (.one (.sum (Zt.l0.s k)))) (.two .auto (.two .auto (.two .auto (.one (.sum (Zt.l1.s k))))))))))) (Zt.cok k) Tryz.func97 (by kernel_rfl) (show Tryz.f97.body = some (cB Tryz.f97) by kernel_rfl) (by kernel_rfl) (by kernel_rfl) (Zd (L := [(Zt.l0.s k, cO (cR (cL (cR (cR (cR (cB Tryz.f97))))))), (Zt.l1.s k, cO (cR (cR (cR (cR (cR (cR (cR (cB Tryz.f97)))))))))]) (by kernel_rfl) ⟨Zt.l0.ok k, Zt.l1.ok k, trivial⟩) (fun x y h => (Zt.ev k x).trans h)
def Zde (k : Nat) (a1 : List G36) (a2 : Int) : Option (List G93 × Int) :=
 bif decide (400 < ((a1.length) : Int)) then
  some ([], 2)
 else
 Option.bind (Zg k a1 a2) fun v3 =>
 bif v3 != 0 then
  some ([], v3)
 else
 Option.bind (Zt k a1) fun v4 =>
 some (v4, 0)
def Zde.sig : Sig := { ps := [.val false (.sl T36) (ros (.sl T36)), .val false (.int .i64) (ros (.int .i64))], rs := [.val true [.own 93 T93, .v (.int .i64)]], ntmps := 20 }
def Zde.con (k : Nat) : Con := Zde.sig.con (fun x => Zde k x.1 x.2)
def Zde.C (k : Nat) : Ctx := { ti := TAB, con := Zh [(58, Zg.con k), (97, Zt.con k)] }
theorem Zde.cok (k : Nat) : CtxOk Tryz.prog (Zde.C k) := Zj Zi ⟨Zg.ok k, Zt.ok k, trivial⟩
theorem Zde.ev (k : Nat) (x : Za Zde.sig.ins) : Zde.sig.ev (Zde.C k) .auto Tryz.f61.results.toList (cB Tryz.f61) x = Zde k x.1 x.2 := by kernel_rfl
theorem Zde.ok (k : Nat) : Zf Tryz.prog 61 (Zde.con k) := Zk (p := .auto) (Zde.cok k) Tryz.func61 (by kernel_rfl) (show Tryz.f61.body = some (cB Tryz.f61) by kernel_rfl) (by kernel_rfl) (by kernel_rfl) (Zd (L := []) (by kernel_rfl) trivial) (fun x y h => (Zde.ev k x).trans h)
def Zye (k : Nat) (a1 : G24) : Option (Int × Int × Int × Str) :=
 Option.bind (Zde k a1.2.2 a1.1) fun v2 =>
 Option.bind (Zyb k v2.1) fun v3 =>
 some (a1.1, ((a1.2.2.length) : Int), v3, a1.2.1)
def Zye.sig : Sig := { ps := [.val true T24 (ros T24)], rs := [.val true [.v (.int .i64), .v (.int .i64), .v (.int .i64), .v .str]], ntmps := 18 }
def Zye.con (k : Nat) : Con := Zye.sig.con (fun x => Zye k x)
def Zye.C (k : Nat) : Ctx := { ti := TAB, con := Zh [(60, Zyb.con k), (61, Zde.con k)], rob := true }
theorem Zye.cok (k : Nat) : CtxOk Tryz.prog (Zye.C k) := Zj Zi ⟨Zyb.ok k, Zde.ok k, trivial⟩
theorem Zye.ev (k : Nat) (x : Za Zye.sig.ins) : Zye.sig.ev (Zye.C k) .auto Tryz.f31.results.toList (cB Tryz.f31) x = Zye k x := by kernel_rfl
theorem Zye.ok (k : Nat) : Zf Tryz.prog 31 (Zye.con k) := Zk (p := .auto) (Zye.cok k) Tryz.func31 (by kernel_rfl) (show Tryz.f31.body = some (cB Tryz.f31) by kernel_rfl) (by kernel_rfl) (by kernel_rfl) (Zd (L := []) (by kernel_rfl) trivial) (fun x y h => (Zye.ev k x).trans h)
def Zqf (k : Nat) (a1 : G26) : Option (Bool) :=
 Option.bind (Zqg k a1.1) fun v2 =>
 bif v2 then
  Option.bind (Zye k a1.1) fun v3 =>
  Option.bind (Zyf v3) fun v4 =>
  some v4
 else
 some false
def Zqf.sig : Sig := { ps := [.val true T26 (ros T26)], rs := [.val false [.v .bool]], ntmps := 12 }
def Zqf.con (k : Nat) : Con := Zqf.sig.con (fun x => Zqf k x)
def Zqf.C (k : Nat) : Ctx := { ti := TAB, con := Zh [(29, Zqg.con k), (30, Zyf.con k), (31, Zye.con k)], rob := true }
theorem Zqf.cok (k : Nat) : CtxOk Tryz.prog (Zqf.C k) := Zj Zi ⟨Zqg.ok k, Zyf.ok k, Zye.ok k, trivial⟩
theorem Zqf.ev (k : Nat) (x : Za Zqf.sig.ins) : Zqf.sig.ev (Zqf.C k) .auto Tryz.f15.results.toList (cB Tryz.f15) x = Zqf k x := by kernel_rfl
theorem Zqf.ok (k : Nat) : Zf Tryz.prog 15 (Zqf.con k) := Zk (p := .auto) (Zqf.cok k) Tryz.func15 (by kernel_rfl) (show Tryz.f15.body = some (cB Tryz.f15) by kernel_rfl) (by kernel_rfl) (by kernel_rfl) (Zd (L := []) (by kernel_rfl) trivial) (fun x y h => (Zqf.ev k x).trans h)
def Zn.l0 : Nat → List Str → List Zld → Int → Option (Unit ⊕ Bool)
 | 0, _, _, _ => none
 | j + 1, a1, a2, a3 =>
  bif decide (a3 < ((a1.length) : Int)) then
   Option.bind (at? a1 a3) fun v4 =>
   bif decide (96 < ((v4.length) : Int)) then
    some (.inr false)
   else
   Zn.l0 j a1 a2 (IntKind.wrap .i64 (a3 + 1))
  else
  some (.inl ())
def Zn.l1 : Nat → List Str → List Zld → Int → Int → Option (Unit ⊕ Bool)
 | 0, _, _, _, _ => none
 | j + 1, a1, a2, a3, a4 =>
  bif decide (a4 < a3) then
   Option.bind (at? a2 a4) fun v5 =>
   Option.bind (at? a2 a3) fun v6 =>
   bif v5.1 == v6.1 then
    some (.inr false)
   else
   Zn.l1 j a1 a2 a3 (IntKind.wrap .i64 (a4 + 1))
  else
  some (.inl ())
def Zn.l2 (k : Nat) : Nat → List Str → List Zld → Int → Option (Unit ⊕ Bool)
 | 0, _, _, _ => none
 | j + 1, a1, a2, a3 =>
  bif decide (a3 < ((a2.length) : Int)) then
   Option.bind (at? a2 a3) fun v4 =>
   Option.bind (Znb v4.1 0 (IntKind.wrap .i64 (((a1.length) : Int) - 1))) fun v5 =>
   bif !v5 then
    some (.inr false)
   else
   Option.bind (at? a2 a3) fun v6 =>
   bif decide (96 < ((v6.2.length) : Int)) then
    some (.inr false)
   else
   Option.bind (Zn.l1 k a1 a2 a3 0) fun
    | .inl y7 =>
     Zn.l2 k j a1 a2 (IntKind.wrap .i64 (a3 + 1))
    | .inr y8 =>
     some (.inr y8)
  else
  some (.inl ())
def Zn (k : Nat) (a1 : G30) : Option (Bool) :=
 let e2 := ((a1.1.length) : Int)
 bif ((decide (e2 < 1)) || (decide (40 < e2))) || (decide (e2 < ((a1.2.length) : Int))) then
  some false
 else
 Option.bind (Zn.l0 k a1.1 a1.2 0) fun
  | .inl y3 =>
   Option.bind (Zn.l2 k k a1.1 a1.2 0) fun
    | .inl y4 =>
     some true
    | .inr y5 =>
     some y5
  | .inr y6 =>
   some y6
def Zn.sig : Sig := { ps := [.val true T30 (ros T30)], rs := [.val false [.v .bool]], ntmps := 86 }
def Zn.con (k : Nat) : Con := Zn.sig.con (fun x => Zn k x)
def Zn.C (k : Nat) : Ctx := { ti := TAB, con := Zh [(59, Znb.con k)], rob := true }
theorem Zn.cok (k : Nat) : CtxOk Tryz.prog (Zn.C k) := Zj Zi ⟨Znb.ok k, trivial⟩
def Zn.l0.ish : Shape := { tmps := [(1, .eptr [.bor .str, .bor Z7c]), (3, .one (.v (.int .i64)))], slots := [], nb := 0 }
def Zn.l0.outs : List (Ex × Shape) := [(.exit 0, { tmps := [], slots := [], nb := 0 }), (.ret, { tmps := [(2, .one (.v .bool))], slots := [], nb := 0 })]
def Zn.l0.F (k j : Nat) (x : Za Zn.l0.ish.tys) : Option (Zy Zn.l0.outs) := Zn.l0 j x.1 x.2.1 x.2.2
def Zn.l0.s (k : Nat) : Summ := { n := 86, ish := Zn.l0.ish, outs := Zn.l0.outs, f := Zn.l0.F k k }
theorem Zn.l0.ev (k j : Nat) (x : Za Zn.l0.ish.tys) : V (Zn.C k) .auto (cO (cO (cR (cL (cR (cR (cB Tryz.f62))))))) (mk Zn.l0.ish 86 x) (fun e st' => match e with | .nrm => (rd Zn.l0.ish st').bind (Zn.l0.F k j) | e => Z0 e st' Zn.l0.outs) = Zn.l0.F k (j + 1) x := by kernel_rfl
theorem Zn.l0.ok (k : Nat) : Z1 Tryz.prog (Zn.C k) (.loop (cO (cO (cR (cL (cR (cR (cB Tryz.f62)))))))) (Zn.l0.s k) := Z5 (by kernel_rfl) (sum_loop (p := .auto) (F := Zn.l0.F k) (Zn.cok k) (by kernel_rfl) (Zd (L := []) (by kernel_rfl) trivial) (fun _ => rfl) (fun j x y h => (Zn.l0.ev k j x).trans h) k rfl)
def Zn.l1.ish : Shape := { tmps := [(1, .eptr [.bor .str, .bor Z7c]), (4, .one (.v (.int .i64))), (5, .one (.v (.int .i64)))], slots := [], nb := 0 }
def Zn.l1.outs : List (Ex × Shape) := [(.exit 4, { tmps := [], slots := [], nb := 0 }), (.ret, { tmps := [(2, .one (.v .bool))], slots := [], nb := 0 })]
def Zn.l1.F (k j : Nat) (x : Za Zn.l1.ish.tys) : Option (Zy Zn.l1.outs) := Zn.l1 j x.1 x.2.1 x.2.2.1 x.2.2.2
def Zn.l1.s (k : Nat) : Summ := { n := 86, ish := Zn.l1.ish, outs := Zn.l1.outs, f := Zn.l1.F k k }
theorem Zn.l1.ev (k j : Nat) (x : Za Zn.l1.ish.tys) : V (Zn.C k) .auto (cO (cO (cR (cR (cO (cL (cR (cO (cO (cR (cL (cR (cR (cR (cB Tryz.f62))))))))))))))) (mk Zn.l1.ish 86 x) (fun e st' => match e with | .nrm => (rd Zn.l1.ish st').bind (Zn.l1.F k j) | e => Z0 e st' Zn.l1.outs) = Zn.l1.F k (j + 1) x := by kernel_rfl
theorem Zn.l1.ok (k : Nat) : Z1 Tryz.prog (Zn.C k) (.loop (cO (cO (cR (cR (cO (cL (cR (cO (cO (cR (cL (cR (cR (cR (cB Tryz.f62)))))))))))))))) (Zn.l1.s k) := Z5 (by kernel_rfl) (sum_loop (p := .auto) (F := Zn.l1.F k) (Zn.cok k) (by kernel_rfl) (Zd (L := []) (by kernel_rfl) trivial) (fun _ => rfl) (fun j x y h => (Zn.l1.ev k j x).trans h) k rfl)
def Zn.l2.ish : Shape := { tmps := [(1, .eptr [.bor .str, .bor Z7c]), (4, .one (.v (.int .i64)))], slots := [], nb := 0 }
def Zn.l2.outs : List (Ex × Shape) := [(.exit 2, { tmps := [], slots := [], nb := 0 }), (.ret, { tmps := [(2, .one (.v .bool))], slots := [], nb := 0 })]
def Zn.l2.F (k j : Nat) (x : Za Zn.l2.ish.tys) : Option (Zy Zn.l2.outs) := Zn.l2 k j x.1 x.2.1 x.2.2
def Zn.l2.s (k : Nat) : Summ := { n := 86, ish := Zn.l2.ish, outs := Zn.l2.outs, f := Zn.l2.F k k }
theorem Zn.l2.ev (k j : Nat) (x : Za Zn.l2.ish.tys) : V (Zn.C k) (.two .auto (.two (.one (.two .auto (.two .auto (.one (.sum (Zn.l1.s k)))))) .auto)) (cO (cO (cR (cL (cR (cR (cR (cB Tryz.f62)))))))) (mk Zn.l2.ish 86 x) (fun e st' => match e with | .nrm => (rd Zn.l2.ish st').bind (Zn.l2.F k j) | e => Z0 e st' Zn.l2.outs) = Zn.l2.F k (j + 1) x := by kernel_rfl
theorem Zn.l2.ok (k : Nat) : Z1 Tryz.prog (Zn.C k) (.loop (cO (cO (cR (cL (cR (cR (cR (cB Tryz.f62))))))))) (Zn.l2.s k) := Z5 (by kernel_rfl) (sum_loop (p := (.two .auto (.two (.one (.two .auto (.two .auto (.one (.sum (Zn.l1.s k)))))) .auto))) (F := Zn.l2.F k) (Zn.cok k) (by kernel_rfl) (Zd (L := [(Zn.l1.s k, cO (cR (cR (cO (cL (cR (cO (cO (cR (cL (cR (cR (cR (cB Tryz.f62))))))))))))))]) (by kernel_rfl) ⟨Zn.l1.ok k, trivial⟩) (fun _ => rfl) (fun j x y h => (Zn.l2.ev k j x).trans h) k rfl)
theorem Zn.ev (k : Nat) (x : Za Zn.sig.ins) : Zn.sig.ev (Zn.C k) (.two .auto (.two .auto (.two (.two .auto (.one (.sum (Zn.l0.s k)))) (.two (.two .auto (.one (.sum (Zn.l2.s k)))) .auto)))) Tryz.f62.results.toList (cB Tryz.f62) x = Zn k x := by kernel_rfl
theorem Zn.ok (k : Nat) : Zf Tryz.prog 62 (Zn.con k) := Zk (p := (.two .auto (.two .auto (.two (.two .auto (.one (.sum (Zn.l0.s k)))) (.two (.two .auto (.one (.sum (Zn.l2.s k)))) .auto))))) (Zn.cok k) Tryz.func62 (by kernel_rfl) (show Tryz.f62.body = some (cB Tryz.f62) by kernel_rfl) (by kernel_rfl) (by kernel_rfl) (Zd (L := [(Zn.l0.s k, cO (cR (cL (cR (cR (cB Tryz.f62)))))), (Zn.l2.s k, cO (cR (cL (cR (cR (cR (cB Tryz.f62)))))))]) (by kernel_rfl) ⟨Zn.l0.ok k, Zn.l2.ok k, trivial⟩) (fun x y h => (Zn.ev k x).trans h)
end Go.Proofs.YtfbancgdmghnkaaGreatDoorE
