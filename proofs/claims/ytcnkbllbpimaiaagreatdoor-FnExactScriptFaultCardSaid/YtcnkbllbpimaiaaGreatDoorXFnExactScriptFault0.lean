/- What the law FnExactScriptFault needs, part 1 of 11: the Lean functions of the Go functions that it reaches, with the proofs that the calls come to what they say, and plain facts about them. Conditions: those that each theorem states. Written by a session and by its programs (after the kit's printer). -/
import Derived.WalkKit
import Derived.ProofKit
import Derived.Below
import Derived.KernelRfl
import Derived.Maps.AppendAt
namespace Go.Proofs.YtcnkbllbpimaiaaGreatDoorE
open Go
set_option linter.unusedVariables false

/-! ### 1. types of data, leaves, values, blocks -/
inductive Ty where
  | int (k : IntKind)
  | bool
  | str
  | sl (r : Ty)
  | pair (a b : Ty)
  | unit
abbrev Str := List UInt8
@[reducible] def Ty.T : Ty → Type
  | .int _ => Int
  | .bool => Bool
  | .str => Str
  | .sl r => List r.T
  | .pair a b => a.T × b.T
  | .unit => Unit
def Ty.sz : Ty → Nat
  | .pair a b => a.sz + b.sz
  | .unit => 0
  | _ => 1
def Ty.same : (a b : Ty) → Option (PLift (a = b))
  | .int k, .int k' => if h : k = k' then some ⟨congrArg Ty.int h⟩ else none
  | .bool, .bool => some ⟨rfl⟩
  | .str, .str => some ⟨rfl⟩
  | .unit, .unit => some ⟨rfl⟩
  | .sl r, .sl r' => match Ty.same r r' with
    | some h => some ⟨congrArg Ty.sl h.down⟩
    | none => none
  | .pair a b, .pair a' b' => match Ty.same a a', Ty.same b b' with
    | some h, some h' => some ⟨by rw [h.down, h'.down]⟩
    | _, _ => none
  | _, _ => none
/-- A leaf: the value of one cell; bor: a row that is lent for reading, and stays as it is while this call runs; rp: a pointer to a variable that is lent for reading. -/
inductive Leaf where
  | int (k : IntKind) (n : Int)
  | bool (b : Bool)
  | kb (b : Bool)
  | str (s : Str)
  | nil
  | list (r : Ty) (l : List r.T)
  | bor (r : Ty) (l : List r.T)
  | rp (t : Ty) (x : t.T)
  | own (n : Nat)
  | ptr (b off : Nat)
  | unk
/-- A block of the call's own. -/
inductive Ent where
  | free
  | box (t : TypeId) (xs : List Leaf)
  /-- z: nothing is appended to it. -/
  | arr (z : Bool) (e : TypeId) (r : Ty) (l : List r.T)
  | frz (r : Ty) (l : List r.T)
/-- What is known of a slot. -/
inductive AV where
  | unk
  | undef
  | one (x : Leaf)
  | agg (xs : List Leaf)
  | tup (xs : List (Bool × List Leaf))
  | eptr (xs : List Leaf)
  | aptr (n : Nat) (i : Int) (sz off : Nat)
  /-- the tail of a row of the call's own -/
  | tl (n : Nat) (i : Int) (sz : Nat)
  /-- a row that is read, and has no room behind it -/
  | full (r : Ty) (l : List r.T)
  | fn (f : FuncId) (caps : List Leaf)
  | gd (t : Nat) (w : Bool) (x : AV)

def leaves : (t : Ty) → t.T → List Leaf
  | .int k, n => [.int k n]
  | .bool, b => [.bool b]
  | .str, s => [.str s]
  | .sl r, l => [.list r l]
  | .pair a b, x => leaves a x.1 ++ leaves b x.2
  | .unit, _ => []
/-- The package-level variables that hold rows of data, as they were laid. -/
def tab0 : List Str := [[], [122, 101, 114, 111], [112, 117, 116], [99, 111, 112, 121], [120, 111, 114], [108, 97, 98, 101, 108]]
def tab1 : List Str := [[], [98, 101, 103, 105, 110], [], [102, 105, 110, 105, 115, 104], [100, 114, 111, 112], [103, 111, 111, 100], [102, 111, 108, 100], [114, 101, 97, 100], [115, 116, 97, 116, 117, 115], [104, 111, 108, 100], [108, 101, 116], [98, 111, 111, 116]]
def tab7 : List Int := [1, 10, 100, 1000, 10000, 100000, 1000000, 10000000, 100000000, 1000000000, 10000000000, 100000000000, 1000000000000, 10000000000000, 100000000000000, 1000000000000000, 10000000000000000, 100000000000000000, 1000000000000000000, 10000000000000000000]
def tab10 : List Int := [0, 1, 28, 2, 29, 14, 24, 3, 30, 22, 20, 15, 25, 17, 4, 8, 31, 27, 13, 23, 21, 19, 16, 7, 26, 12, 18, 6, 11, 5, 10, 9]
def tab11 : List Int := [0, 1, 56, 2, 57, 49, 28, 3, 61, 58, 42, 50, 38, 29, 17, 4, 62, 47, 59, 36, 45, 43, 51, 22, 53, 39, 33, 30, 24, 18, 12, 5, 63, 55, 48, 27, 60, 41, 37, 16, 46, 35, 44, 21, 52, 32, 23, 11, 54, 26, 40, 15, 34, 20, 31, 10, 25, 14, 19, 9, 13, 8, 7, 6]
def GL : Nat → Option (Σ r : Ty, List r.T)
  | 0 => some ⟨.str, tab0⟩
  | 1 => some ⟨.str, tab1⟩
  | 3 => some ⟨.int .i64, []⟩
  | 5 => some ⟨.unit, []⟩
  | 6 => some ⟨.unit, []⟩
  | 7 => some ⟨.int .u64, tab7⟩
  | 10 => some ⟨.int .u8, tab10⟩
  | 11 => some ⟨.int .u8, tab11⟩
  | _ => none
/-- No rows inside. -/
def flat : Ty → Bool
  | .sl _ => false
  | .pair a b => flat a && flat b
  | _ => true
/-- Rows as lent ones. -/
def borL : Leaf → Leaf
  | .list r l => .bor r l
  | x => x
def unlInt (k : IntKind) : List Leaf → Option (Int × List Leaf)
  | .int k' n :: xs => if k = k' then some (n, xs) else none
  | _ => none
def unlBool : List Leaf → Option (Bool × List Leaf)
  | .bool b :: xs => some (b, xs)
  | .kb b :: xs => some (b, xs)
  | _ => none
def unlStr : List Leaf → Option (Str × List Leaf)
  | .str s :: xs => some (s, xs)
  | _ => none
def unlSl (r : Ty) : List Leaf → Option (List r.T × List Leaf)
  | .list r' l :: xs => match Ty.same r' r with
    | some h => some (h.down ▸ l, xs)
    | none => none
  | .nil :: xs => some ([], xs)
  | _ => none
def unl : (t : Ty) → List Leaf → Option (t.T × List Leaf)
  | .int k, xs => unlInt k xs
  | .bool, xs => unlBool xs
  | .str, xs => unlStr xs
  | .sl r, xs => unlSl r xs
  | .pair a b, xs => match unl a xs with
    | some (x, ys) => match unl b ys with
      | some (y, zs) => some ((x, y), zs)
      | none => none
    | none => none
  | .unit, xs => some ((), xs)
/-- All of some leaves, as one value of a type. -/
def unlA (t : Ty) (xs : List Leaf) : Option t.T :=
  match unl t xs with
  | some (x, []) => some x
  | _ => none

/-! ### 2. the state -/
def getL {α : Type} (d : α) : List α → Nat → α
  | [], _ => d
  | x :: _, 0 => x
  | _ :: xs, i + 1 => getL d xs i
def setL {α : Type} (d : α) : List α → Nat → α → List α
  | [], 0, y => [y]
  | [], i + 1, y => d :: setL d [] i y
  | _ :: xs, 0, y => y :: xs
  | x :: xs, i + 1, y => x :: setL d xs i y
/-- n: how many slots there are; gs: the guarded values of a region (slot, guard's slot, wanted, value); nb: the next block's name, below lim; res: names that are kept free. -/
structure St where
  n : Nat
  tmps : List AV
  gs : List (Nat × Nat × Bool × AV)
  heap : List Ent
  nb : Nat
  lim : Nat
  res : List (Nat × Nat)
def findG : List (Nat × Nat × Bool × AV) → Nat → Option AV
  | [], _ => none
  | (j, t, w, x) :: r, i => bif Nat.beq j i then some (.gd t w x) else findG r i
def dropG : List (Nat × Nat × Bool × AV) → Nat → List (Nat × Nat × Bool × AV)
  | [], _ => []
  | (j, t, w, x) :: r, i => bif Nat.beq j i || Nat.beq t i then dropG r i else (j, t, w, x) :: dropG r i
def freeG : List (Nat × Nat × Bool × AV) → Nat → List (Nat × Nat × Bool × AV)
  | [], _ => []
  | (j, t, w, x) :: r, i => bif Nat.beq j i then freeG r i else (j, t, w, x) :: freeG r i
def St.tmp (st : St) (i : Nat) : AV := match findG st.gs i with
  | some v => v
  | none => getL .unk st.tmps i
def St.ent (st : St) (i : Nat) : Ent := getL .free st.heap i
/-- A slot written. -/
def St.setT (st : St) (i : Nat) (v : AV) : St := { st with tmps := setL .unk st.tmps i v, gs := dropG st.gs i }
/-- A slot written under a guard. -/
def St.setG (st : St) (i t : Nat) (w : Bool) (v : AV) : St := { st with tmps := setL .unk st.tmps i .unk, gs := bif Nat.beq i t then dropG st.gs i else (i, t, w, v) :: dropG st.gs i }
/-- More known of a slot. -/
def St.refT (st : St) (i : Nat) (v : AV) : St := { st with tmps := setL .unk st.tmps i v, gs := freeG st.gs i }
def St.setB (st : St) (i : Nat) (e : Ent) : St := { st with heap := setL .free st.heap i e }
def St.newB (st : St) (e : Ent) : St := { st with heap := setL .free st.heap st.nb e, nb := st.nb + 1 }

/-! ### 3. programs over the state -/
inductive M (α : Type) : Type 1 where
  | ret (a : α)
  | get (i : Nat) (k : AV → M α)
  | getb (i : Nat) (k : Ent → M α)
  | setb (i : Nat) (e : Ent) (k : M α)
  | new (e : Ent) (k : Nat → M α)
  | opt (β : Type) (o : Option β) (k : β → M α)
  | fail
def M.bind {α β : Type} : M α → (α → M β) → M β
  | .ret a, f => f a
  | .get i k, f => .get i fun v => (k v).bind f
  | .getb i k, f => .getb i fun v => (k v).bind f
  | .setb i e k, f => .setb i e (k.bind f)
  | .new e k, f => .new e fun n => (k n).bind f
  | .opt β o k, f => .opt β o fun b => (k b).bind f
  | .fail, _ => .fail
def M.run {α R : Type} : M α → St → (α → St → Option R) → Option R
  | .ret a, st, K => K a st
  | .get i k, st, K => (k (st.tmp i)).run st K
  | .getb i k, st, K => (k (st.ent i)).run st K
  | .setb i e k, st, K => k.run (st.setB i e) K
  | .new e k, st, K => bif Nat.blt st.nb st.lim then (k st.nb).run (st.newB e) K else none
  | .opt _ o k, st, K => o.bind fun b => (k b).run st K
  | .fail, _, _ => none
/-- The answer of a program that makes, writes and parts nothing. -/
def M.still {α : Type} : M α → St → Option α
  | .ret a, _ => some a
  | .get i k, st => (k (st.tmp i)).still st
  | .getb i k, st => (k (st.ent i)).still st
  | _, _ => none
def M.mapL {α β : Type} (f : α → M β) : List α → M (List β)
  | [] => .ret []
  | x :: xs => (f x).bind fun y => (M.mapL f xs).bind fun ys => .ret (y :: ys)

/-! ### 4. tables: types, callees -/
structure TI where
  sz : Nat
  agg : Bool
  offs : List (Nat × TypeId)
  elem : TypeId
  /-- 1 number, 2 string, 3 slice, 4 struct, 5 bool, 0 other -/
  kind : Nat
  ik : IntKind
  bytes : Nat
  zero : List Leaf
  ty : Ty
  /-- '==' is that of the leaves -/
  eqs : Bool
/-- A leaf of an argument: data, or a row of the caller's own that is handed over to be written (or nil in its place). -/
inductive CL where
  | leaf (x : Leaf)
  | row (e : TypeId) (r : Ty) (l : List r.T)
  | nil
/-- An argument: a value; a pointer to read through; a pointer to a variable of the caller's; a function with the variables that it holds; a row that is given away. -/
inductive CArg where
  | val (agg : Bool) (xs : List CL)
  | rptr (xs : List Leaf)
  | ref (t : TypeId) (xs : List CL)
  | fn (f : FuncId) (caps : List (TypeId × List CL))
  | mv (e : TypeId) (r : Ty) (l : List r.T)
/-- How a leaf is handed on: for good; to be read; to be written. -/
inductive LM where
  | v
  | ro
  | rw
inductive PM where
  | val (ms : List LM)
  | rptr
  | ref (ms : List LM)
  | fn (f : FuncId) (caps : List (List LM))
  | mv
inductive RL where
  | leaf (x : Leaf)
  | own (e : TypeId) (r : Ty) (l : List r.T)
/-- A result: a value; a pointer to a new variable. -/
inductive RC where
  | val (agg : Bool) (xs : List RL)
  | box (t : TypeId) (xs : List RL)
/-- What was lent, as it comes back. -/
inductive RF where
  | box (t : TypeId) (xs : List RL)
  | row (e : TypeId) (r : Ty) (l : List r.T)
structure RR where
  res : List RC
  refs : List RF
/-- A contract's answer: none; surely; or if a partial function answers. -/
inductive CR : Type 1 where
  | fail
  | ret (r : RR)
  | opt (β : Type) (o : Option β) (f : β → RR)
def CR.toM : CR → M RR
  | .fail => .fail
  | .ret r => .ret r
  | .opt β o f => .opt β o fun b => .ret (f b)
def CR.val : CR → Option RR
  | .fail => none
  | .ret r => some r
  | .opt _ o f => o.map f
inductive Tab (α : Type) where
  | nil
  | node (l : Tab α) (v : Option α) (r : Tab α)
def Tab.get {α : Type} : Tab α → Nat → Option α
  | .nil, _ => none
  | .node l v r, n => bif Nat.beq n 0 then v else bif Nat.beq (n % 2) 1 then l.get (n / 2) else r.get (n / 2 - 1)
structure Con where
  ms : List PM
  f : List CArg → CR
structure Ctx where
  ti : Tab TI
  con : FuncId → List Con
  rob : Bool := false
  tl : Bool := false

/-! ### 5. operands -/
def ofVal : Value → AV
  | .int k n => .one (.int k n)
  | .bool b => .one (.kb b)
  | .string s => .one (.str s.data.toList)
  | .slice none 0 0 => .one .nil
  | .func (.func f) ⟨[]⟩ ⟨[]⟩ => .fn f []
  | _ => .unk
/-- A guarded value, read under a guard. -/
def unw2 (x : AV) (t : Nat) (w : Bool) : AV → M AV
  | .gd t2 w2 _ => bif Nat.beq t t2 && (w == w2) then .ret x else .fail
  | _ => .fail
def unw1 (g : Option (Nat × Bool)) (x : AV) (t : Nat) (w : Bool) : AV → M AV
  | .one (.kb b) => bif b == w then .ret x else .fail
  | _ => match g with
    | none => .fail
    | some (t', w') => bif Nat.beq t t' && (w == w') then .ret x else .get t' (unw2 x t w)
def unw (g : Option (Nat × Bool)) : AV → M AV
  | .gd t w x => .get t (unw1 g x t w)
  | v => .ret v
def opd (g : Option (Nat × Bool)) : Operand → M AV
  | .tmp t => .get t fun v => unw g v
  | .const v => .ret (ofVal v)
  | .func f => .ret (.fn f [])
  | .global _ => .fail
/-- A type's number that tells of a map. -/
def isMap (e : TypeId) : Bool := Nat.ble 1000000 e
def pureLeaf : Leaf → M Leaf
  | .own n => .getb n fun e => match e with
    | .arr _ e r l => bif isMap e then .fail else .setb n (.frz r l) (.ret (.list r l))
    | .frz r l => .ret (.list r l)
    | _ => .fail
  | .unk => .fail
  | .ptr _ _ => .fail
  | .bor _ _ => .fail
  | .rp _ _ => .fail
  | x => .ret x
/-- The content of a slice. -/
def content : Leaf → M (Σ r : Ty, List r.T)
  | .list r l => .ret ⟨r, l⟩
  | .bor r l => bif flat r then .ret ⟨r, l⟩ else .fail
  | .own n => .getb n fun e => match e with
    | .arr _ e r l => bif isMap e then .fail else .ret ⟨r, l⟩
    | .frz r l => .ret ⟨r, l⟩
    | _ => .fail
  | _ => .fail
def cellsOf : AV → Option (List Leaf)
  | .one x => some [x]
  | .agg xs => some xs
  | _ => none
def mk1 (agg : Bool) (xs : List Leaf) : AV :=
  bif agg then .agg xs else match xs with
    | [x] => .one x
    | _ => .unk

/-! ### 6. partial answers -/
def at? {α : Type} (l : List α) (i : Int) : Option α := if 0 ≤ i then l[i.toNat]? else none
def cut? {α : Type} (l : List α) (i j : Int) : Option (List α) := if 0 ≤ i ∧ i ≤ j ∧ j ≤ l.length then some ((l.take j.toNat).drop i.toNat) else none
def cat? (a b : Str) : Option Str := if a.length + b.length ≤ 9223372036854775807 then some (a ++ b) else none
def nz? (b : Int) : Option Unit := if b = 0 then none else some ()
def room? (n bytes : Nat) : Option Unit := if n * bytes ≤ 140737488355328 then some () else none
def app? {α : Type} (bytes : Nat) (a b : List α) : Option (List α) := if (a.length + b.length) * bytes ≤ 140737488355328 then some (a ++ b) else none
def set? {α : Type} (l : List α) (i : Int) (x : α) : Option (List α) := if 0 ≤ i ∧ i < l.length then some (l.set i.toNat x) else none
def make? {α : Type} (bytes : Nat) (n c : Int) (x : α) : Option (List α) := if 0 ≤ n ∧ n ≤ c ∧ c.toNat * bytes ≤ 140737488355328 then some (List.replicate n.toNat x) else none
def intBits (op : BinOp) (k : IntKind) (x y : Int) : Int :=
  let a := BitVec.ofInt k.bits x
  let b := BitVec.ofInt k.bits y
  match op with
  | .and => k.wrap ((a &&& b).toNat)
  | .or => k.wrap ((a ||| b).toNat)
  | .xor => k.wrap ((a ^^^ b).toNat)
  | _ => k.wrap ((a &&& ~~~b).toNat)
def shl (k : IntKind) (x n : Int) : Int := k.wrap (x * 2 ^ (min n.toNat k.bits))
def shr (k : IntKind) (x n : Int) : Int := x.fdiv (2 ^ (min n.toNat k.bits))
def nneg? (n : Int) : Option Unit := if n < 0 then none else some ()

/-! ### 7. operations -/
/-- The leaves of a type. -/
def leafTys : Ty → List Ty
  | .pair a b => leafTys a ++ leafTys b
  | .unit => []
  | t => [t]
def eqLeafT : Ty → Leaf → Leaf → Option Bool
  | .int _, .int k a, .int k' b => if k = k' then some (a == b) else none
  | .bool, .bool a, .bool b => some (a == b)
  | .bool, .kb a, .bool b => some (a == b)
  | .bool, .bool a, .kb b => some (a == b)
  | .str, .str a, .str b => some (a == b)
  | _, _, _ => none
def eqLeavesT : List Ty → List Leaf → List Leaf → Option Bool
  | [t], [x], [y] => eqLeafT t x y
  | t :: ts, x :: xs, y :: ys => match eqLeafT t x y, eqLeavesT ts xs ys with
    | some a, some b => some (a && b)
    | _, _ => none
  | _, _, _ => none
def retB (b : Bool) : M AV := .ret (.one (.bool b))
def retI (k : IntKind) (n : Int) : M AV := .ret (.one (.int k n))
def binInt (op : BinOp) (k : IntKind) (a b : Int) : M AV :=
  match op with
  | .add => retI k (k.wrap (a + b))
  | .sub => retI k (k.wrap (a - b))
  | .mul => retI k (k.wrap (a * b))
  | .quo => .opt Unit (nz? b) fun _ => retI k (k.wrap (a.tdiv b))
  | .rem => .opt Unit (nz? b) fun _ => retI k (a.tmod b)
  | .eql => retB (a == b)
  | .neq => retB (a != b)
  | .lss => retB (decide (a < b))
  | .leq => retB (decide (a ≤ b))
  | .gtr => retB (decide (b < a))
  | .geq => retB (decide (b ≤ a))
  | .shl => .opt Unit (nneg? b) fun _ => retI k (shl k a b)
  | .shr => .opt Unit (nneg? b) fun _ => retI k (shr k a b)
  | op => retI k (intBits op k a b)
def lessS : Str → Str → Bool := Op.bytesLess
def binStr (op : BinOp) (a b : Str) : M AV :=
  match op with
  | .add => .opt Str (cat? a b) fun c => .ret (.one (.str c))
  | .eql => retB (a == b)
  | .neq => retB (!(a == b))
  | .lss => retB (lessS a b)
  | .leq => retB (lessS a b || (a == b))
  | .gtr => retB (!(lessS a b || (a == b)))
  | .geq => retB (!(lessS a b))
  | _ => .fail
def binBool (C : Ctx) (t : TypeId) (op : BinOp) (x y : Bool) : M AV := match C.ti.get t with
  | some i => bif Nat.beq i.kind 5 then match op with
    | .eql => retB (x == y)
    | .neq => retB (!(x == y))
    | _ => .fail
    else .fail
  | none => .fail
def binOp (C : Ctx) (t : TypeId) (op : BinOp) : AV → AV → M AV
  | .one (.int k a), .one (.int k' b) => match op with
    | .shl | .shr => binInt op k a b
    | _ => if k = k' then binInt op k a b else .fail
  | .one (.str a), .one (.str b) => binStr op a b
  | .one (.bool x), .one (.bool y) => binBool C t op x y
  | .one (.bool x), .one (.kb y) => binBool C t op x y
  | .agg xs, .agg ys => match C.ti.get t with
    | some i => bif i.eqs then match op, eqLeavesT (leafTys i.ty) xs ys with
      | .eql, some b => retB b
      | .neq, some b => retB (!b)
      | _, _ => .fail
      else .fail
    | none => .fail
  | _, _ => .fail
def unOp (op : UnOp) : AV → M AV
  | .one (.int k a) => match op with
    | .neg => retI k (k.wrap (0 - a))
    | .xor => retI k (intBits .xor k (if k.signed then -1 else k.max) a)
    | _ => .fail
  | .one (.bool b) => match op with
    | .not => retB (!b)
    | _ => .fail
  | .one (.kb b) => match op with
    | .not => .ret (.one (.kb (!b)))
    | _ => .fail
  | _ => .fail
def byteList (s : Str) : List Int := s.map fun b => (b.toNat : Int)
def listByte (l : List Int) : Str := l.map fun n => UInt8.ofNat n.toNat
section
variable (C : Ctx)
def tiOf {α : Type} (t : TypeId) (f : TI → M α) : M α := match C.ti.get t with
  | some i => f i
  | none => .fail
def convB (y : Leaf) : M AV := match y with
  | .nil => .ret (.one (.str []))
  | y => (content y).bind fun c => match c with
    | ⟨.int .u8, l⟩ => .ret (.one (.str (listByte l)))
    | _ => .fail
def isByte (t : TypeId) (f : M AV) : M AV := tiOf C t fun e => bif Nat.beq e.kind 1 then match e.ik with
  | .u8 => f
  | _ => .fail
  else .fail
def conv2 (s d : TI) (x : AV) : M AV := match x with
  | .one (.int _ n) => bif Nat.beq d.kind 1 then retI d.ik (d.ik.wrap n) else .fail
  | .one (.str t) => bif Nat.beq d.kind 2 then .ret (.one (.str t)) else bif Nat.beq s.kind 2 && Nat.beq d.kind 3 then
      isByte C d.elem (.opt Unit (room? t.length 1) fun _ => .new (.arr true d.elem (.int .u8) (byteList t)) fun n => .ret (.one (.own n))) else .fail
  | .one y => bif Nat.beq s.kind 3 && Nat.beq d.kind 2 then isByte C s.elem (convB y) else .fail
  | _ => .fail
def convert (src dst : TypeId) (x : AV) : M AV := tiOf C src fun s => tiOf C dst fun d => conv2 C s d x
def asInt : AV → M Int
  | .one (.int _ n) => .ret n
  | _ => .fail
def rowTI (t : TypeId) (f : TI → TI → M AV) : M AV := tiOf C t fun i => bif Nat.beq i.kind 3 then tiOf C i.elem fun e => f i e else .fail
def indexAddr (t : TypeId) (x i : AV) : M AV :=
  (asInt i).bind fun j => rowTI C t fun _ ei => match x with
  | .one (.list r l) => bif Nat.beq r.sz ei.sz then .opt r.T (at? l j) fun v => .ret (.eptr (leaves r v)) else .fail
  | .one (.bor r l) => bif Nat.beq r.sz ei.sz then .opt r.T (at? l j) fun v => .ret (.eptr ((leaves r v).map borL)) else .fail
  | .one (.own n) => .getb n fun e => match e with
    | .arr _ e r l => bif !(isMap e) && Nat.beq r.sz ei.sz then .opt r.T (at? l j) fun _ => .ret (.aptr n j r.sz 0) else .fail
    | .frz r l => bif Nat.beq r.sz ei.sz then .opt r.T (at? l j) fun v => .ret (.eptr (leaves r v)) else .fail
    | _ => .fail
  | _ => .fail
def index (t : TypeId) (x i : AV) : M AV :=
  (asInt i).bind fun j => tiOf C t fun ti => bif Nat.beq ti.kind 2 then match x with
  | .one (.str s) => .opt UInt8 (at? s j) fun b => retI .u8 (b.toNat : Int)
  | _ => .fail
  else .fail
def fieldOff (t : TypeId) (f : Nat) (k : Nat → TypeId → M AV) : M AV :=
  tiOf C t fun i => bif Nat.beq i.kind 4 then match i.offs[f]? with
  | some (o, ft) => k o ft
  | none => .fail
  else .fail
def fieldAddr (t : TypeId) (x : AV) (f : Nat) : M AV :=
  fieldOff C t f fun o _ => match x with
  | .one (.ptr b off) => .getb b fun e => match e with
    | .box _ _ => .ret (.one (.ptr b (off + o)))
    | _ => .fail
  | .eptr xs => .ret (.eptr (xs.drop o))
  | .aptr n i z off => .getb n fun e => match e with
    | .arr _ _ _ _ => .ret (.aptr n i z (off + o))
    | _ => .fail
  | _ => .fail
def part (t : TypeId) (xs : List Leaf) : M AV :=
  tiOf C t fun i => bif i.agg then (bif Nat.ble i.sz xs.length then .ret (.agg (xs.take i.sz)) else .fail) else match xs with
    | x :: _ => .ret (.one x)
    | [] => .fail
def field (t : TypeId) (x : AV) (f : Nat) : M AV :=
  fieldOff C t f fun o ft => match x with
  | .agg xs => part C ft (xs.drop o)
  | _ => .fail
def load (t : TypeId) (p : AV) : M AV := match p with
  | .one (.ptr b off) => .getb b fun e => match e with
    | .box _ xs => part C t (xs.drop off)
    | _ => .fail
  | .eptr xs => part C t xs
  | .aptr n i z off => .getb n fun e => match e with
    | .arr _ _ r l => bif Nat.beq z r.sz then .opt r.T (at? l i) fun v => part C t ((leaves r v).drop off) else .fail
    | _ => .fail
  | _ => .fail
def over (xs : List Leaf) (off : Nat) (ys : List Leaf) : Option (List Leaf) :=
  bif Nat.ble (off + ys.length) xs.length then some (xs.take off ++ ys ++ xs.drop (off + ys.length)) else none
def storeB (b off : Nat) (ys : List Leaf) : Ent → M AV
  | .box bt xs => match over xs off ys with
    | some zs => .setb b (.box bt zs) (.ret .undef)
    | none => .fail
  | _ => .fail
def storeA (n : Nat) (i : Int) (z off : Nat) (ys : List Leaf) : Ent → M AV
  | .arr fz et r l => bif Nat.beq z r.sz then .opt r.T (at? l i) fun v => match over (leaves r v) off ys with
    | some zs => match unlA r zs with
      | some y => .setb n (.arr fz et r (l.set i.toNat y)) (.ret .undef)
      | none => .fail
    | none => .fail
    else .fail
  | _ => .fail
def store (t : TypeId) (p v : AV) : M AV :=
  tiOf C t fun ti => match cellsOf v with
  | none => .fail
  | some ys => bif Nat.beq ys.length ti.sz then match p with
    | .one (.ptr b off) => .getb b (storeB b off ys)
    | .aptr n i z off => (M.mapL pureLeaf ys).bind fun ys => .getb n (storeA n i z off ys)
    | _ => .fail
    else .fail
def buildParts (ti : TI) (xs : List Leaf) : List (Nat × List Leaf) → Option (List Leaf)
  | [] => some xs
  | (f, ys) :: rest => match ti.offs[f]? with
    | some (o, ft) => match C.ti.get ft with
      | some fi => bif Nat.beq ys.length fi.sz then match over xs o ys with
        | some zs => buildParts ti zs rest
        | none => none
        else none
      | none => none
    | none => none
def partsOf (g : Option (Nat × Bool)) (ps : List (Nat × Operand)) : M (List (Nat × List Leaf)) :=
  M.mapL (fun p => (opd g p.2).bind fun v => match cellsOf v with
    | some xs => .ret (p.1, xs)
    | none => .fail) ps
/-- The parts of a row, one after the other. -/
def rowsOf (r : Ty) : List (Nat × List Leaf) → Nat → Option (List r.T)
  | [], _ => some []
  | (f, ys) :: ps, i => bif Nat.beq f i then match unlA r ys, rowsOf r ps (i + 1) with
    | some x, some l => some (x :: l)
    | _, _ => none
    else none
def pureParts (qs : List (Nat × List Leaf)) : M (List (Nat × List Leaf)) := M.mapL (fun p => (M.mapL pureLeaf p.2).bind fun ys => .ret (p.1, ys)) qs
def idxOr (o : Option AV) (d : Int) : M Int := match o with
  | none => .ret d
  | some v => asInt v
def sliceL (lo hi : Option AV) : Leaf → M AV
  | .list r l => (idxOr lo 0).bind fun i => (idxOr hi l.length).bind fun j => .opt (List r.T) (cut? l i j) fun t => .ret (.one (.list r t))
  | .bor r l => (idxOr lo 0).bind fun i => (idxOr hi l.length).bind fun j => .opt (List r.T) (cut? l i j) fun t => .ret (.one (.bor r t))
  | .nil => (idxOr lo 0).bind fun i => (idxOr hi 0).bind fun j => bif decide (i = 0) && decide (j = 0) then .ret (.one .nil) else .fail
  | _ => .fail
def sliceOf (t : TypeId) (x : AV) (lo hi : Option AV) : M AV := tiOf C t fun ti => match ti.kind, x with
  | 2, .one (.str s) => (idxOr lo 0).bind fun i => (idxOr hi s.length).bind fun j => .opt Str (cut? s i j) fun t => .ret (.one (.str t))
  | 3, .one x => tiOf C ti.elem fun ei => match x with
    | .bor r l => bif Nat.beq r.sz ei.sz then sliceL lo hi (.bor r l) else .fail
    | x => (pureLeaf x).bind fun y => match y with
      | .list r l => bif Nat.beq r.sz ei.sz then sliceL lo hi (.list r l) else .fail
      | y => sliceL lo hi y
  | _, _ => .fail
def appNil (ti ei : TI) (ys : List ei.ty.T) : M AV := .opt (List ei.ty.T) (app? ei.bytes [] ys) fun l => .new (.arr false ti.elem ei.ty l) fun n => .ret (.one (.own n))
def appOwn (ti ei : TI) (ys : List ei.ty.T) (m : Nat) : Ent → M AV
  | .arr false et r l => match Ty.same r ei.ty with
    | none => .fail
    | some h' => bif Nat.beq et ti.elem then
        .opt (List ei.ty.T) (app? ei.bytes (h'.down ▸ l) ys) fun l => .setb m .free (.new (.arr false ti.elem ei.ty l) fun n => .ret (.one (.own n)))
      else .fail
  | _ => .fail
def appTo (ti ei : TI) (s : AV) (c : Σ r : Ty, List r.T) : M AV :=
  match Ty.same c.1 ei.ty with
  | none => .fail
  | some h => match s with
    | .one .nil => appNil ti ei (h.down ▸ c.2)
    | .one (.own m) => .getb m (appOwn ti ei (h.down ▸ c.2) m)
    | _ => .fail
/-- Appending to a row that was made of a string. -/
def appMark (ti ei : TI) (ys : List ei.ty.T) (m : Nat) : Ent → M AV
  | .arr true et r l => match Ty.same r ei.ty with
    | none => .fail
    | some h' => bif Nat.beq et ti.elem then
        .opt (List ei.ty.T) (app? ei.bytes (h'.down ▸ l) ys) fun l => .setb m .free (.new (.arr true ti.elem ei.ty l) fun n => .ret (.one (.own n)))
      else .fail
  | e => appOwn ti ei ys m e
def appToM (ti ei : TI) (s : AV) (c : Σ r : Ty, List r.T) : M AV :=
  match Ty.same c.1 ei.ty with
  | none => .fail
  | some h => match s with
    | .one .nil => appNil ti ei (h.down ▸ c.2)
    | .one (.own m) => .getb m (appMark ti ei (h.down ▸ c.2) m)
    | _ => .fail
def append (t : TypeId) (s x : AV) : M AV :=
  rowTI C t fun ti ei => bif Nat.beq ei.ty.sz ei.sz && Nat.blt 0 ei.sz then match x with
    | .one .nil => appToM ti ei s ⟨ei.ty, []⟩
    | .one y => (content y).bind fun c => appToM ti ei s c
    | _ => .fail
  else .fail
def imax (a b : Int) : Int := if b > a then b else a
def imin (a b : Int) : Int := if b < a then b else a
def maxOf (mx : Bool) : AV → AV → M AV
  | .one (.int k a), .one (.int k' b) => if k = k' then retI k (bif mx then imax a b else imin a b) else .fail
  | _, _ => .fail
def arg1 (c : Call) : Bool := match c.argTypes.toList with
  | [a, b] => Nat.beq a b
  | _ => false
/-! #### maps from numbers to true -/
def hasK (k : Int) (l : List Int) : Bool := l.any fun x => k == x
def addK (k : Int) (l : List Int) : List Int := bif hasK k l then l else l ++ [k]
def mapTI (t : TypeId) (f : M AV) : M AV := tiOf C t fun i => bif Nat.beq i.kind 6 then f else .fail
def lookE (k : Int) : Ent → M AV
  | .arr _ e (.int .i64) l => bif isMap e then retB (hasK k l) else .fail
  | _ => .fail
def lookupOf (t : TypeId) (x i : AV) : M AV := mapTI C t (match x, i with
  | .one (.own n), .one (.int .i64 k) => .getb n (lookE k)
  | _, _ => .fail)
def updE (n : Nat) (k : Int) : Ent → M AV
  | .arr z e (.int .i64) l => bif isMap e then .setb n (.arr z e (.int .i64) (addK k l)) (.ret .undef) else .fail
  | _ => .fail
def updateOf (t : TypeId) (m i x : AV) : M AV := mapTI C t (match m, i, x with
  | .one (.own n), .one (.int .i64 k), .one (.kb true) => .getb n (updE n k)
  | _, _, _ => .fail)
def mapLen : Ent → M AV
  | .arr _ e (.int .i64) l => bif isMap e then retI .i64 (l.length : Int) else .fail
  | _ => .fail
def lenOf (t : TypeId) (x : AV) : M AV := tiOf C t fun ti => match ti.kind, x with
  | 6, .one (.own n) => .getb n mapLen
  | 2, .one (.str s) => retI .i64 (s.length : Int)
  | 3, .one .nil => retI .i64 0
  | 3, .one (.bor _ l) => retI .i64 (l.length : Int)
  | 3, .one y => (content y).bind fun c => retI .i64 (c.2.length : Int)
  | _, _ => .fail
/-- Second operand a string. -/
def argS (c : Call) : Bool := match c.argTypes.toList with
  | [_, u] => match C.ti.get u with
    | some i => Nat.beq i.kind 2
    | none => false
  | _ => false
def byteZero (ei : TI) : Bool := match ei.zero with
  | [.int .u8 n] => decide (n = 0) && !ei.agg && Nat.beq ei.sz 1 && Nat.beq ei.bytes 1
  | _ => false
def appendS (t : TypeId) (s x : AV) : M AV :=
  rowTI C t fun ti ei => bif Nat.beq ei.ty.sz ei.sz && byteZero ei then match x with
    | .one (.str y) => appToM ti ei s ⟨.int .u8, byteList y⟩
    | _ => .fail
  else .fail
/-! #### arguments -/
/-- What an argument lends: variables and rows, in order; with it the rows that are lent for reading, and those that are given away. -/
inductive RS where
  | box (n : Nat)
  | row (n : Nat)
  | no
structure AI where
  sl : List RS
  ro : List Nat
  mv : List Nat
def AI.none : AI := ⟨[], [], []⟩
def AI.app (a b : AI) : AI := ⟨a.sl ++ b.sl, a.ro ++ b.ro, a.mv ++ b.mv⟩
def roArg (x : Leaf) : M (CL × AI) := match x with
  | .own n => .getb n fun e => match e with
    | .arr _ e r l => bif isMap e then .fail else .ret (.leaf (.bor r l), ⟨[], [n], []⟩)
    | .frz r l => .ret (.leaf (.list r l), AI.none)
    | _ => .fail
  | .unk => .fail
  | .ptr _ _ => .fail
  | .rp _ _ => .fail
  | x => .ret (.leaf x, AI.none)
def vArg (x : Leaf) : M (CL × AI) := (pureLeaf x).bind fun y => .ret (.leaf y, AI.none)
/-- A leaf of a value. -/
def leafArg : LM → Leaf → M (CL × AI)
  | .v, x => vArg x
  | .ro, x => roArg x
  | .rw, .own n => .getb n fun e => match e with
    | .arr false t r l => .ret (.row t r l, ⟨[.row n], [], []⟩)
    | _ => .fail
  | .rw, .nil => .ret (.nil, ⟨[.no], [], []⟩)
  | .rw, _ => .fail
/-- A leaf of a variable that is lent: its row goes along. -/
def leafMv : LM → Leaf → M (CL × AI)
  | .v, x => vArg x
  | .rw, .own n => .getb n fun e => match e with
    | .arr false t r l => .setb n .free (.ret (.row t r l, ⟨[], [], [n]⟩))
    | _ => .fail
  | .rw, .nil => .ret (.nil, AI.none)
  | _, _ => .fail
def leavesArg (f : LM → Leaf → M (CL × AI)) : List LM → List Leaf → M (List CL × AI)
  | [], [] => .ret ([], AI.none)
  | m :: ms, x :: xs => (f m x).bind fun a => (leavesArg f ms xs).bind fun b => .ret (a.1 :: b.1, a.2.app b.2)
  | _, _ => .fail
def roLeaf (x : Leaf) : M (Leaf × List Nat) := (roArg x).bind fun a => match a.1 with
  | .leaf (.list r l) => .ret (.bor r l, a.2.ro)
  | .leaf y => .ret (y, a.2.ro)
  | _ => .fail
/-- The type's number that stands for a captured variable that is lent for reading. -/
def roT : TypeId := 4000000
def refArg (ms : List LM) (b : Nat) : Ent → M ((TypeId × List CL) × AI)
  | .box t xs => bif Nat.beq t roT then .fail else (leavesArg leafMv ms xs).bind fun a => .ret ((t, a.1), AI.app ⟨[.box b], [], []⟩ a.2)
  | _ => .fail
def isRo : LM → Bool
  | .ro => true
  | _ => false
def roMs : List LM → Bool
  | [] => false
  | m :: ms => isRo m && ms.all isRo
def rpArg (xs : List Leaf) : M ((TypeId × List CL) × AI) := (M.mapL roLeaf xs).bind fun ys => .ret ((roT, ys.map fun y => .leaf y.1), ⟨[], ys.flatMap (·.2), []⟩)
def capBox (b : Nat) : Ent → M ((TypeId × List CL) × AI)
  | .box _ xs => (rpArg xs).bind fun a => .ret (a.1, a.2.app ⟨[], [b], []⟩)
  | _ => .fail
def capArg (ms : List LM) (x : Leaf) : M ((TypeId × List CL) × AI) := match x with
  | .ptr b 0 => .getb b fun e => bif roMs ms then capBox b e else refArg ms b e
  | .rp t x => bif roMs ms then rpArg ((leaves t x).map borL) else .fail
  | _ => .fail
def capsArg : List (List LM) → List Leaf → M (List (TypeId × List CL) × AI)
  | [], [] => .ret ([], AI.none)
  | ms :: mss, x :: xs => (capArg ms x).bind fun a => (capsArg mss xs).bind fun c => .ret (a.1 :: c.1, a.2.app c.2)
  | _, _ => .fail
def rptrArg (xs : List Leaf) : M (CArg × AI) := (M.mapL roLeaf xs).bind fun ys => .ret (.rptr (ys.map (·.1)), ⟨[], ys.flatMap (·.2), []⟩)
def argOf : PM → AV → M (CArg × AI)
  | .val ms, .one x => (leavesArg leafArg ms [x]).bind fun a => .ret (.val false a.1, a.2)
  | .val ms, .agg xs => (leavesArg leafArg ms xs).bind fun a => .ret (.val true a.1, a.2)
  | .rptr, .one (.ptr b off) => .getb b fun e => match e with
    | .box _ xs => (rptrArg (xs.drop off)).bind fun a => .ret (a.1, a.2.app ⟨[], [b], []⟩)
    | _ => .fail
  | .rptr, .eptr xs => rptrArg xs
  | .rptr, .one (.rp t x) => rptrArg ((leaves t x).map borL)
  | .ref ms, .one (.ptr b 0) => .getb b fun e => (refArg ms b e).bind fun a => .ret (.ref a.1.1 a.1.2, a.2)
  | .fn _ mss, .fn f xs => (capsArg mss xs).bind fun a => .ret (.fn f a.1, a.2)
  | .mv, .one (.own n) => .getb n fun e => match e with
    | .arr false t r l => .setb n .free (.ret (.mv t r l, ⟨[], [], [n]⟩))
    | _ => .fail
  | _, _ => .fail
def argsOf : List PM → List AV → M (List CArg × AI)
  | [], [] => .ret ([], AI.none)
  | m :: ms, v :: vs => (argOf m v).bind fun a => (argsOf ms vs).bind fun b => .ret (a.1 :: b.1, a.2.app b.2)
  | _, _ => .fail
/-! which contract fits -/
def fitL : LM → Leaf → Bool
  | .rw, .own _ => true
  | .rw, .nil => true
  | .rw, _ => false
  | .v, .bor _ _ => false
  | _, .unk => false
  | _, .ptr _ _ => false
  | _, .rp _ _ => false
  | _, _ => true
def fitLs : List LM → List Leaf → Bool
  | [], [] => true
  | m :: ms, x :: xs => fitL m x && fitLs ms xs
  | _, _ => false
def fitB (ms : List LM) : Ent → M Bool
  | .box _ xs => .ret (fitLs ms xs)
  | _ => .ret false
def fitCap (ms : List LM) (x : Leaf) : M Bool := match x with
  | .ptr b 0 => .getb b fun e => bif roMs ms then fitB (ms.map fun _ => .ro) e else fitB ms e
  | .rp _ _ => .ret (roMs ms)
  | _ => .ret false
def fitCaps : List (List LM) → List Leaf → M Bool
  | [], [] => .ret true
  | ms :: mss, x :: xs => (fitCap ms x).bind fun a => (fitCaps mss xs).bind fun c => .ret (a && c)
  | _, _ => .ret false
def fitA : PM → AV → M Bool
  | .val _, .one (.ptr _ _) => .ret false
  | .val _, .one (.rp _ _) => .ret false
  | .val ms, .one x => .ret (fitLs ms [x])
  | .val ms, .agg xs => .ret (fitLs ms xs)
  | .rptr, .one (.ptr _ _) => .ret true
  | .rptr, .one (.rp _ _) => .ret true
  | .rptr, .eptr _ => .ret true
  | .ref ms, .one (.ptr b 0) => .getb b (fitB ms)
  | .fn f mss, .fn f' xs => bif Nat.beq f f' then fitCaps mss xs else .ret false
  | .mv, .one (.own _) => .ret true
  | _, _ => .ret false
def fitAs : List PM → List AV → M Bool
  | [], [] => .ret true
  | m :: ms, v :: vs => (fitA m v).bind fun a => (fitAs ms vs).bind fun b => .ret (a && b)
  | _, _ => .ret false
def newRL : RL → M Leaf
  | .leaf x => .ret x
  | .own e r l => .new (.arr false e r l) fun n => .ret (.own n)
def nodupB : List Nat → Bool
  | [] => true
  | n :: ns => !(ns.any (Nat.beq n)) && nodupB ns
def disjB (xs ys : List Nat) : Bool := xs.all fun x => !(ys.any (Nat.beq x))
def RS.ids : List RS → List Nat
  | [] => []
  | .box n :: rs => n :: RS.ids rs
  | .row n :: rs => n :: RS.ids rs
  | .no :: rs => RS.ids rs
/-- The rows that are lent are still what they were. -/
def lentOk : List RS → M Unit
  | [] => .ret ()
  | .row n :: rs => .getb n fun e => match e with
    | .arr _ _ _ _ => lentOk rs
    | _ => .fail
  | _ :: rs => lentOk rs
def AI.ok (a : AI) : Bool := nodupB (RS.ids a.sl ++ a.mv) && disjB (RS.ids a.sl ++ a.mv) a.ro
def putRefs : List RS → List RF → M Unit
  | [], [] => .ret ()
  | .box b :: bs, .box t xs :: rs => (M.mapL newRL xs).bind fun ys => .setb b (.box t ys) (putRefs bs rs)
  | .row n :: bs, .row e r l :: rs => .setb n (.arr false e r l) (putRefs bs rs)
  | .no :: bs, .row _ _ _ :: rs => putRefs bs rs
  | _, _ => .fail
def resFin : List (Bool × List Leaf) → AV
  | [(a, xs)] => mk1 a xs
  | cs => .tup cs
def resC : RC → M (Bool × List Leaf)
  | .val a xs => (M.mapL newRL xs).bind fun ys => .ret (a, ys)
  | .box t xs => (M.mapL newRL xs).bind fun ys => .new (.box t ys) fun n => .ret (false, [.ptr n 0])
def resOf (rs : List RC) : M AV := (M.mapL resC rs).bind fun cs => .ret (resFin cs)
def callC (c : Con) (vs : List AV) : M AV :=
  (argsOf c.ms vs).bind fun a => (lentOk a.2.sl).bind fun _ => bif a.2.ok then (c.f a.1).toM.bind fun rr => (putRefs a.2.sl rr.refs).bind fun _ => resOf rr.res else .fail
def callAny : List Con → List AV → M AV
  | [], _ => .fail
  | c :: cs, vs => (fitAs c.ms vs).bind fun b => bif b then callC c vs else callAny cs vs
def callF (f : FuncId) (vs : List AV) : M AV := callAny (C.con f) vs
def callV (g : Option (Nat × Bool)) (asx : List Operand) : AV → M AV
  | .fn k caps => (M.mapL (opd g) asx).bind fun vs => callF C k (vs ++ caps.map .one)
  | _ => .fail
def pickL (tc : Nat) (cb : Bool) : AV → M AV
  | .gd t true (.one (.bool x)) => bif Nat.beq t tc then retB (cb && x) else .fail
  | .one (.bool x) => retB (cb && x)
  | _ => .fail
def pickR (tc : Nat) (cb : Bool) : AV → M AV
  | .gd t false (.one (.bool x)) => bif Nat.beq t tc then retB (cb || x) else .fail
  | .one (.bool x) => retB (cb || x)
  | _ => .fail
def pick1 (g : Option (Nat × Bool)) (tc : Nat) (a b : Operand) : AV → M AV
  | .one (.kb true) => opd g a
  | .one (.kb false) => opd g b
  | .one (.bool cb) => match a, b with
    | .tmp ta, .const (.bool false) => .get ta (pickL tc cb)
    | .const (.bool true), .tmp tb => .get tb (pickR tc cb)
    | _, _ => .fail
  | _ => .fail
def pick (g : Option (Nat × Bool)) (c a b : Operand) : M AV :=
  match c with
  | .tmp tc => .get tc fun v0 => (unw g v0).bind (pick1 g tc a b)
  | _ => .fail
/-- Leaves that a variable which is only read may hold. -/
def ronly : Leaf → Bool
  | .own _ => false
  | .ptr _ _ => false
  | .rp _ _ => false
  | .unk => false
  | _ => true
def isBor : Leaf → Bool
  | .bor _ _ => true
  | _ => false
def boxOf (rob : Bool) (e : TypeId) (v : AV) : M AV := match cellsOf v with
  | some xs => bif rob && (xs.any isBor && xs.all ronly) then .ret (.eptr xs) else .new (.box e xs) fun n => .ret (.one (.ptr n 0))
  | none => .fail
def buildOf (ti : TI) (qs : List (Nat × List Leaf)) : M AV := bif Nat.beq ti.kind 4 then match buildParts C ti ti.zero qs with
  | some xs => .ret (.agg xs)
  | none => .fail
  else .fail
def buildRow (ti ei : TI) (n : Nat) (qs : List (Nat × List Leaf)) : M AV :=
  bif Nat.beq qs.length n && Nat.ble (n * ei.sz) 16777216 && Nat.beq ei.ty.sz ei.sz && Nat.blt 0 ei.sz then match rowsOf ei.ty qs 0 with
  | some l => .new (.arr false ti.elem ei.ty l) fun m => .ret (.one (.own m))
  | none => .fail
  else .fail
def makeOf (ti ei : TI) (v u : AV) : M AV := (asInt v).bind fun n => (asInt u).bind fun c => bif Nat.beq ei.ty.sz ei.sz && Nat.blt 0 ei.sz then match unlA ei.ty ei.zero with
  | some z => .opt (List ei.ty.T) (make? ei.bytes n c z) fun xs => .new (.arr false ti.elem ei.ty xs) fun m => .ret (.one (.own m))
  | none => .fail
  else .fail
/-! #### rows without room -/
def cut3? {α : Type} (l : List α) (i j m : Int) : Option (List α) := if 0 ≤ i ∧ i ≤ j ∧ j = m ∧ m ≤ l.length then some ((l.take j.toNat).drop i.toNat) else none
def slice3 (t : TypeId) (x lo hi mx : AV) : M AV := rowTI C t fun _ ei => (asInt lo).bind fun i => (asInt hi).bind fun j => (asInt mx).bind fun m => match x with
  | .one (.bor r l) => bif flat r && Nat.beq r.sz ei.sz then .opt (List r.T) (cut3? l i j m) fun t => .ret (.full r t) else .fail
  | .one (.list r l) => bif flat r && Nat.beq r.sz ei.sz then .opt (List r.T) (cut3? l i j m) fun t => .ret (.full r t) else .fail
  | _ => .fail
def appFull (ti ei : TI) (l m : List ei.ty.T) : M AV := match m with
  | [] => .fail
  | y :: ys => .opt (List ei.ty.T) (app? ei.bytes l (y :: ys)) fun k => .new (.arr false ti.elem ei.ty k) fun n => .ret (.one (.own n))
def appFullTo (ti ei : TI) (r : Ty) (l : List r.T) (c : Σ r : Ty, List r.T) : M AV := match Ty.same r ei.ty, Ty.same c.1 ei.ty with
  | some h, some k => appFull ti ei (h.down ▸ l) (k.down ▸ c.2)
  | _, _ => .fail
def appFullX (ti ei : TI) (r : Ty) (l : List r.T) : AV → M AV
  | .one y => (content y).bind fun c => appFullTo ti ei r l c
  | _ => .fail
def appendF (t : TypeId) (s x : AV) : M AV := match s with
  | .full r l => rowTI C t fun ti ei => bif Nat.beq ei.ty.sz ei.sz && (Nat.blt 0 ei.sz && flat ei.ty) then appFullX ti ei r l x else .fail
  | s => append C t s x
/-- A package-level variable that is an array, as a row that is read. -/
def glSlice (t : TypeId) (n : Nat) : M AV := tiOf C t fun ti => bif Nat.beq ti.kind 7 then tiOf C ti.elem fun _ => match GL n, ti.offs with
    | some p, [(len, _)] => bif Nat.blt 0 len && Nat.beq len p.2.length then .ret (.one (.bor p.1 p.2)) else .fail
    | _, _ => .fail
  else .fail
/-! #### tails of rows -/
def tail? (i : Int) (n : Nat) : Option Unit := if 0 ≤ i ∧ i ≤ n then some () else none
def tailE (n : Nat) (i : Int) (ei : TI) : Ent → M AV
  | .arr false e r l => bif !(isMap e) && Nat.beq r.sz ei.sz then .opt Unit (tail? i l.length) fun _ => .ret (.tl n i r.sz) else .fail
  | _ => .fail
def sliceT (t : TypeId) (x : AV) (lo hi : Option AV) : M AV := match C.tl, x, lo, hi with
  | true, .one (.own n), some v, none => rowTI C t fun _ ei => (asInt v).bind fun i => .getb n (tailE n i ei)
  | _, x, lo, hi => sliceOf C t x lo hi
def clearE (n : Nat) (i : Int) (z : Nat) (ei : TI) : Ent → M AV
  | .arr false e r l => bif !(isMap e) && (Nat.beq r.sz z && Nat.beq ei.sz z) then match unlA r ei.zero with
    | some o => .setb n (.arr false e r (l.take i.toNat ++ List.replicate (l.length - i.toNat) o)) (.ret (.tup []))
    | none => .fail
    else .fail
  | _ => .fail
def clearOf (t : TypeId) (x : AV) : M AV := rowTI C t fun _ ei => match x with
  | .tl n i z => .getb n (clearE n i z ei)
  | _ => .fail
/-- What is copied over the tail of a row. -/
def copyL {α : Type} (l : List α) (i : Nat) (m : List α) : List α := l.take i ++ m.take (l.length - i) ++ l.drop (i + m.length)
def copyE (n : Nat) (i : Int) (z : Nat) (ei : TI) (c : Σ r : Ty, List r.T) : Ent → M AV
  | .arr false e r l => bif !(isMap e) && (Nat.beq r.sz z && Nat.beq ei.sz z) then match Ty.same c.1 r with
    | some h => .setb n (.arr false e r (copyL l i.toNat (h.down ▸ c.2))) (.ret .unk)
    | none => .fail
    else .fail
  | _ => .fail
def copyOf (t : TypeId) (x y : AV) : M AV := rowTI C t fun _ ei => match x, y with
  | .tl n i z, .one (.list r l) => .getb n (copyE n i z ei ⟨r, l⟩)
  | .tl n i z, .one (.bor r l) => bif flat r then .getb n (copyE n i z ei ⟨r, l⟩) else .fail
  | _, _ => .fail
def opdO (g : Option (Nat × Bool)) : Option Operand → M (Option AV)
  | none => .ret none
  | some x => (opd g x).bind fun v => .ret (some v)
/-- Leaves as one value. -/
def rp1 : Leaf → Option (Σ t : Ty, t.T)
  | .int k n => some ⟨.int k, n⟩
  | .bool b => some ⟨.bool, b⟩
  | .str s => some ⟨.str, s⟩
  | .bor r l => some ⟨.sl r, l⟩
  | .list r l => some ⟨.sl r, l⟩
  | _ => none
def rpOf : List Leaf → Option (Σ t : Ty, t.T)
  | [] => none
  | [x] => rp1 x
  | x :: xs => match rp1 x, rpOf xs with
    | some a, some b => some ⟨.pair a.1 b.1, (a.2, b.2)⟩
    | _, _ => none
def capOf : AV → M Leaf
  | .one x => .ret x
  | .eptr xs => match rpOf xs with
    | some a => .ret (.rp a.1 a.2)
    | none => .fail
  | _ => .fail
def extractOf (i : Nat) : AV → M AV
  | .tup cs => match cs[i]? with
    | some (a, xs) => .ret (mk1 a xs)
    | none => .fail
  | _ => .fail
def nilOf : AV → M AV
  | .one (.ptr b off) => .getb b fun e => match e with
    | .box _ _ => .ret (.one (.ptr b off))
    | _ => .fail
  | .eptr xs => .ret (.eptr xs)
  | _ => .fail
def arg0 (c : Call) (f : TypeId → M AV) : M AV := match c.argTypes[0]? with
  | some t => f t
  | none => .fail
def evalCall (g : Option (Nat × Bool)) (c : Call) : M AV :=
  match c.callee, c.args.toList with
  | .builtin .len, [x] => (opd g x).bind fun v => arg0 c fun t => lenOf C t v
  | .builtin .append, [s, x] => bif arg1 c then (opd g s).bind fun sv => (opd g x).bind fun xv => arg0 c fun t => appendF C t sv xv else bif argS C c then (opd g s).bind fun sv => (opd g x).bind fun xv => arg0 c fun t => appendS C t sv xv else .fail
  | .value f, asx => (opd g f).bind fun fv => callV C g asx fv
  | .builtin .max, [x, y] => (opd g x).bind fun a => (opd g y).bind fun b => maxOf true a b
  | .builtin .min, [x, y] => (opd g x).bind fun a => (opd g y).bind fun b => maxOf false a b
  | .builtin .clear, [x] => (opd g x).bind fun v => arg0 c fun t => clearOf C t v
  | .builtin .copy, [x, y] => (opd g x).bind fun v => (opd g y).bind fun u => arg0 c fun t => copyOf C t v u
  | _, _ => .fail
/-- A row of bytes, converted to its own type: it bears a mark from then on. -/
def markE (s : TypeId) (n : Nat) : Ent → M AV
  | .arr false e (.int .u8) (y :: l) => bif isMap e then .fail else tiOf C s fun si => bif Nat.beq si.kind 3 && Nat.beq si.elem e then isByte C e (.setb n (.arr true e (.int .u8) (y :: l)) (.ret (.one (.own n)))) else .fail
  | _ => .fail
def convertM (s d : TypeId) (x : AV) : M AV := bif Nat.beq s d then match x with
    | .one (.own n) => .getb n (markE C s n)
    | x => convert C s d x
  else convert C s d x
/-- An element's address in a package-level variable. -/
def glAddr (t : TypeId) (n : Nat) (jv : AV) : M AV := (asInt jv).bind fun j => tiOf C t fun ti => bif Nat.beq ti.kind 7 then tiOf C ti.elem fun ei => match GL n, ti.offs with
    | some p, [(len, _)] => bif Nat.beq p.1.sz ei.sz && Nat.beq len p.2.length then .opt p.1.T (at? p.2 j) fun v => .ret (.eptr ((leaves p.1 v).map borL)) else .fail
    | _, _ => .fail
  else .fail
def evalOp (g : Option (Nat × Bool)) (o : Oper) : M AV :=
  match o.op with
  | .move x | .assign x => opd g x
  | .pick c a b => pick g c a b
  | .alloc e => tiOf C e fun i => .new (.box e i.zero) fun n => .ret (.one (.ptr n 0))
  | .box e x => (opd g x).bind fun v => boxOf C.rob e v
  | .build t ps => tiOf C t fun ti => (partsOf g ps.toList).bind fun qs => buildOf C ti qs
  | .buildSlice t n ps => rowTI C t fun ti ei => (partsOf g ps.toList).bind fun qs => (pureParts qs).bind fun qs => buildRow ti ei n qs
  | .load t a => (opd g a).bind fun p => load C t p
  | .store t a x => (opd g a).bind fun p => (opd g x).bind fun v => store C t p v
  | .nilCheck x => (opd g x).bind fun v => nilOf v
  | .binOp op t x y _ => (opd g x).bind fun a => (opd g y).bind fun b => binOp C t op a b
  | .unOp op _ x => (opd g x).bind fun a => unOp op a
  | .convert s d x => (opd g x).bind fun a => convertM C s d a
  | .makeFunc (.func f) ⟨[]⟩ caps => (M.mapL (opd g) caps.toList).bind fun vs => (M.mapL capOf vs).bind fun xs => .ret (.fn f xs)
  | .makeSlice t l c => rowTI C t fun ti ei => (opd g l).bind fun v => (opd g c).bind fun u => makeOf ti ei v u
  | .slice t (.global n) none none none => glSlice C t n
  | .slice t x (some lo) (some hi) (some mx) => (opd g x).bind fun v => (opd g lo).bind fun l => (opd g hi).bind fun u => (opd g mx).bind fun m => slice3 C t v l u m
  | .slice t x lo hi none => (opd g x).bind fun v => (opdO g lo).bind fun l => (opdO g hi).bind fun u => sliceT C t v l u
  | .makeMap t none => mapTI C t (.new (.arr false (1000000 + t) (.int .i64) []) fun n => .ret (.one (.own n)))
  | .lookup t x i false => (opd g x).bind fun v => (opd g i).bind fun j => lookupOf C t v j
  | .mapUpdate t m k x => (opd g m).bind fun v => (opd g k).bind fun j => (opd g x).bind fun y => updateOf C t v j y
  | .fieldAddr t x f => (opd g x).bind fun v => fieldAddr C t v f
  | .field t x f => (opd g x).bind fun v => field C t v f
  | .indexAddr t (.global n) i => (opd g i).bind fun j => glAddr C t n j
  | .indexAddr t x i => (opd g x).bind fun v => (opd g i).bind fun j => indexAddr C t v j
  | .index t x i => (opd g x).bind fun v => (opd g i).bind fun j => index C t v j
  | .extract x i => (opd g x).bind fun v => extractOf i v
  | .call c => evalCall C g c
  | _ => .fail

/-! ### 8. regions -/
def St.put (st : St) (d : Option Tmp) (v : AV) : St := match d with
  | none => st
  | some i => st.setT i v
def St.putG (st : St) (d : Option Tmp) (t : Nat) (w : Bool) (v : AV) : St := match d with
  | none => st
  | some i => st.setG i t w v
/-- Part by a slot's bool: behind it the slot is known. -/
def known {R : Type} : Nat → Nat → St → (St → Option R) → Option R
  | 0, _, _, _ => none
  | k + 1, t, st, K => match st.tmp t with
    | .one (.kb _) => K st
    | .undef => K st
    | .one (.bool b) => bif b then K (st.refT t (.one (.kb true))) else K (st.refT t (.one (.kb false)))
    | .gd t1 w1 x => known k t1 st fun st' => match st'.tmp t1 with
      | .one (.kb b) => bif b == w1 then known k t (st'.refT t x) K else K (st'.refT t .undef)
      | .undef => K (st'.refT t .undef)
      | _ => none
    | _ => none
def dstOk (st : St) (o : Oper) : Bool := match o.dst with
  | none => true
  | some d => Nat.blt d st.n
def runKb {R : Type} (o : Oper) (exec : AV → St → Option R) (skip : St → Option R) (t : Nat) (w : Bool) (st : St) : Option R := match st.tmp t with
  | .one (.kb b) => bif b == w then (evalOp C none o).run st exec else skip (st.put o.dst .undef)
  | .undef => skip (st.put o.dst .undef)
  | _ => none
def runGd {R : Type} (o : Oper) (exec : AV → St → Option R) (skip : St → Option R) (t : Nat) (w : Bool) (st : St) : Option R := match st.tmp t with
  | .one (.kb _) => runKb C o exec skip t w st
  | .undef => runKb C o exec skip t w st
  | _ => match (evalOp C (some (t, w)) o).still st with
    | some v => skip (st.putG o.dst t w v)
    | none => known 4 t st (runKb C o exec skip t w)
def runOps {R : Type} (ops : Array Oper) : List Oper → St → (St → Option R) → Option R
  | [], st, K => K { st with gs := [] }
  | o :: rest, st, K =>
    bif dstOk st o then
    match o.guard with
    | none => (evalOp C none o).run st fun v st' => runOps ops rest (st'.put o.dst v) K
    | some (j, w) => match (ops[j]?).bind (·.dst) with
      | none => none
      | some t => runGd C o (fun v st' => runOps ops rest (st'.put o.dst v) K) (fun st' => runOps ops rest st' K) t w st
    else none
end
end Go.Proofs.YtcnkbllbpimaiaaGreatDoorE

namespace Go.Proofs.YtcnkbllbpimaiaaGreatDoorE
open Go
set_option linter.unusedVariables false

/-! ### regions in any order: each operation's footprint; two that touch the same thing, one of them writing, are ordered -/
/-- Slots read; blocks read; blocks written. -/
structure FP where
  rt : List Nat
  rb : List Nat
  wb : List Nat
def M.runF {α R : Type} : M α → St → FP → (α → St → FP → Option R) → Option R
  | .ret a, st, f, K => K a st f
  | .get i k, st, f, K => (k (st.tmp i)).runF st { f with rt := i :: f.rt } K
  | .getb i k, st, f, K => (k (st.ent i)).runF st { f with rb := i :: f.rb } K
  | .setb i e k, st, f, K => k.runF (st.setB i e) { f with wb := i :: f.wb } K
  | .new e k, st, f, K => bif Nat.blt st.nb st.lim then (k st.nb).runF (st.newB e) { f with wb := st.nb :: f.wb } K else none
  | .opt _ o k, st, f, K => o.bind fun b => (k b).runF st f K
  | .fail, _, _, _ => none
/-- An operation's record: its slot; its footprint; which operations come before it (bits). -/
structure Rec where
  dst : List Nat
  fp : FP
  anc : Nat
def disjN (xs ys : List Nat) : Bool := xs.all fun x => !(ys.any (Nat.beq x))
def apartR (j k : Rec) : Bool :=
  disjN j.dst k.fp.rt && disjN j.dst k.dst && disjN k.dst j.fp.rt && disjN j.fp.wb k.fp.rb && disjN j.fp.wb k.fp.wb && disjN j.fp.rb k.fp.wb
/-- The records of the operations before, the last one first. -/
def okR : List Rec → Rec → Bool
  | [], _ => true
  | j :: rs, k => (Nat.testBit k.anc rs.length || apartR j k) && okR rs k
/-- What comes before an operation: bits. -/
def ancOf (rs : List Rec) : List Edge → Option Nat
  | [] => some 0
  | e :: es => bif Region.binds .any e then match rs.reverse[e.on]?, ancOf rs es with
    | some r, some m => some (r.anc ||| (1 <<< e.on) ||| m)
    | _, _ => none
    else ancOf rs es
/-- Is an operation a guard? -/
def isGuard (ops : List Oper) (k : Nat) : Bool := ops.any fun o => match o.guard with
  | none => false
  | some (j, _) => Nat.beq j k
section
variable (C : Ctx)
/-- A guard's bool is told apart at once. -/
def splitB {R : Type} (g : Bool) (v : AV) (K : AV → Option R) : Option R := match g, v with
  | true, .one (.bool b) => bif b then K (.one (.kb true)) else K (.one (.kb false))
  | _, v => K v
def drawOp {R : Type} (g : Bool) (o : Oper) (rs : List Rec) (m : Nat) (f : FP) (st : St) (K : St → List Rec → Option R) : Option R :=
  (evalOp C none o).runF st f fun v st' f' => splitB g v fun v =>
    bif okR rs ⟨o.dst.toList, f', m⟩ then K (st'.put o.dst v) (⟨o.dst.toList, f', m⟩ :: rs) else none
def drawSkip {R : Type} (o : Oper) (rs : List Rec) (m : Nat) (f : FP) (st : St) (K : St → List Rec → Option R) : Option R :=
  bif okR rs ⟨o.dst.toList, f, m⟩ then K (st.put o.dst .undef) (⟨o.dst.toList, f, m⟩ :: rs) else none
def drawOne {R : Type} (ops : Array Oper) (o : Oper) (rs : List Rec) (m : Nat) (st : St) (K : St → List Rec → Option R) : Option R :=
  match o.guard with
  | none => drawOp C (isGuard ops.toList rs.length) o rs m ⟨[], [], []⟩ st K
  | some (j, w) => match (ops[j]?).bind (·.dst) with
    | none => none
    | some t => match st.tmp t with
      | .one (.kb b) => bif b == w then drawOp C (isGuard ops.toList rs.length) o rs m ⟨[t], [], []⟩ st K else drawSkip o rs m ⟨[t], [], []⟩ st K
      | .undef => drawSkip o rs m ⟨[t], [], []⟩ st K
      | _ => none
def runDraw {R : Type} (ops : Array Oper) : List Oper → List Rec → St → (St → Option R) → Option R
  | [], _, st, K => bif Nat.ble st.nb 1000000 then K st else none
  | o :: rest, rs, st, K =>
    bif dstOk st o then match ancOf rs o.after.toList with
    | some m => drawOne C ops o rs m st fun st' rs' => runDraw ops rest rs' st' K
    | none => none
    else none
def plainB (st : St) : Bool := Nat.beq st.lim 1000000 && st.res.isEmpty
def drawAll {R : Type} (ops : Array Oper) (st : St) (K : St → Option R) : Option R :=
  bif plainB st then runDraw C ops ops.toList [] { st with gs := [] } K else none
end
end Go.Proofs.YtcnkbllbpimaiaaGreatDoorE

namespace Go.Proofs.YtcnkbllbpimaiaaGreatDoorE
open Go
set_option linter.unusedVariables false

/-! ### 9. shapes: what is known of a state, as data -/
/-- A leaf of a shape: a value of a type; a row of the call's own (a slot); a pointer to a slot; nothing. -/
inductive LK where
  | v (t : Ty)
  | bor (r : Ty)
  | rp (t : Ty)
  | own (n : Nat)
  | ptr (b off : Nat)
  /-- the row of a slot that keeps its name -/
  | pin (n : Nat)
  | no
inductive TK where
  | one (x : LK)
  | agg (xs : List LK)
  | eptr (xs : List LK)
  | fn (f : FuncId) (caps : List LK)
inductive BK where
  | box (t : TypeId) (xs : List LK)
  | arr (z : Bool) (e : TypeId) (r : Ty)
  | pin (e : TypeId) (r : Ty)
structure Shape where
  tmps : List (Nat × TK)
  slots : List (Nat × BK)
  nb : Nat
/-- Products without a tail. -/
@[reducible] def Prod' : List Ty → Type
  | [] => Unit
  | [t] => t.T
  | t :: ts => t.T × Prod' ts
def LK.tys : LK → List Ty
  | .v t => [t]
  | .bor r => [.sl r]
  | .rp t => [t]
  | _ => []
def tysL : List LK → List Ty
  | [] => []
  | x :: xs => x.tys ++ tysL xs
def TK.tys : TK → List Ty
  | .one x => x.tys
  | .agg xs => tysL xs
  | .eptr xs => tysL xs
  | .fn _ xs => tysL xs
def BK.tys : BK → List Ty
  | .box _ xs => tysL xs
  | .arr _ _ r => [.sl r]
  | .pin _ r => [.sl r]
def tysT : List (Nat × TK) → List Ty
  | [] => []
  | x :: xs => x.2.tys ++ tysT xs
def tysB : List (Nat × BK) → List Ty
  | [] => []
  | x :: xs => x.2.tys ++ tysB xs
def Shape.tys (s : Shape) : List Ty := tysT s.tmps ++ tysB s.slots
/-- Values in a row, of given types. -/
inductive DV where
  | mk (t : Ty) (x : t.T)
def DV.asx (t : Ty) : DV → Option t.T
  | .mk t' x => match Ty.same t' t with
    | some h => some (h.down ▸ x)
    | none => none
def toProd : (ts : List Ty) → List DV → Option (Prod' ts)
  | [], [] => some ()
  | [t], [d] => d.asx t
  | t :: t' :: ts, d :: ds => match d.asx t, toProd (t' :: ts) ds with
    | some x, some y => some (x, y)
    | _, _ => none
  | _, _ => none
def ofProd : (ts : List Ty) → Prod' ts → List DV
  | [], _ => []
  | [t], x => [.mk t x]
  | t :: t' :: ts, x => .mk t x.1 :: ofProd (t' :: ts) x.2

/-! #### a state read by a shape -/
def castL {r' r : Ty} (l : List r'.T) : Option (List r.T) := match Ty.same r' r with
  | some h => some (h.down ▸ l)
  | none => none
/-- A row as a list; with it: its slot, if the row may still be written. -/
def ownList (st : St) (r : Ty) (n : Nat) : Option (List r.T × List Nat) := match st.ent n with
  | .arr _ e _ l => bif isMap e then none else match castL l with
    | some l => some (l, [n])
    | none => none
  | .frz _ l => match castL l with
    | some l => some (l, [])
    | none => none
  | _ => none
def pureSl (st : St) (r : Ty) : Leaf → Option (List r.T × List Nat)
  | .own n => ownList st r n
  | x => match unlA (.sl r) [x] with
    | some l => some (l, [])
    | none => none
def pureOf (st : St) : (t : Ty) → Leaf → Option (t.T × List Nat)
  | .sl r, x => pureSl st r x
  | t, x => match unlA t [x] with
    | some y => some (y, [])
    | none => none
/-- A leaf by a leaf of a shape; with it: which slots stand for which (new, old). -/
def rdPtr (b off : Nat) : Leaf → Option (List DV × List (Nat × Nat))
  | .ptr b' off' => bif Nat.beq b b' && Nat.beq off off' then some ([], []) else none
  | _ => none
def rdOwn (n : Nat) : Leaf → Option (List DV × List (Nat × Nat))
  | .own m => bif Nat.blt m 1000000 then some ([], [(n, m)]) else none
  | .nil => some ([], [(n, 3000000 + n)])
  | _ => none
def rdPin (n : Nat) : Leaf → Option (List DV × List (Nat × Nat))
  | .own m => bif Nat.beq n m then some ([], []) else none
  | _ => none
def someL (r : Ty) : Option (List r.T) → Option (List DV × List (Nat × Nat))
  | some l => some ([.mk (.sl r) l], [])
  | none => none
def rdBor (st : St) (r : Ty) : Leaf → Option (List DV × List (Nat × Nat))
  | .bor _ l => someL r (castL l)
  | .list _ l => someL r (castL l)
  | .nil => someL r (some [])
  | .own n => match st.ent n with
    | .frz _ l => someL r (castL l)
    | _ => none
  | _ => none
def rdRp (t : Ty) : Leaf → Option (List DV × List (Nat × Nat))
  | .rp t' x => match Ty.same t' t with
    | some h => some ([.mk t (h.down ▸ x)], [])
    | none => none
  | _ => none
def rdLeaf (st : St) : LK → Leaf → Option (List DV × List (Nat × Nat))
  | .no, _ => some ([], [])
  | .ptr b off, x => rdPtr b off x
  | .pin n, x => rdPin n x
  | .own n, x => rdOwn n x
  | .bor r, x => rdBor st r x
  | .rp t, x => rdRp t x
  | .v t, x => match pureOf st t x with
    | some (y, ns) => some ([.mk t y], ns.map fun o => (1000000 + o, o))
    | none => none
def rdLeaves (st : St) : List LK → List Leaf → Option (List DV × List (Nat × Nat))
  | [], [] => some ([], [])
  | k :: ks, x :: xs => match rdLeaf st k x, rdLeaves st ks xs with
    | some (a, m), some (b, m') => some (a ++ b, m ++ m')
    | _, _ => none
  | _, _ => none
def rdT (st : St) : TK → AV → Option (List DV × List (Nat × Nat))
  | .one k, .one x => rdLeaf st k x
  | .agg ks, .agg xs => rdLeaves st ks xs
  | .eptr ks, .eptr xs => rdLeaves st ks xs
  | .fn f ks, .fn f' xs => bif Nat.beq f f' then rdLeaves st ks xs else none
  | _, _ => none
def rdTs (st : St) : List (Nat × TK) → Option (List DV × List (Nat × Nat))
  | [] => some ([], [])
  | (i, k) :: ks => match rdT st k (st.tmp i), rdTs st ks with
    | some (a, m), some (b, m') => some (a ++ b, m ++ m')
    | _, _ => none
def rdArr (st : St) (z : Bool) (e : TypeId) (r : Ty) (o : Nat) : Option (List DV) := match st.ent o with
  | .arr z' e' _ l => match castL (r := r) l with
    | some l => bif Nat.beq e e' && (z == z') then some [.mk (.sl r) l] else none
    | none => none
  | _ => none
def rdB (st : St) (m : List (Nat × Nat)) (n : Nat) : BK → Option (List DV)
  | .box t ks => match st.ent n with
    | .box t' xs => match rdLeaves st ks xs with
      | some (a, _) => bif Nat.beq t t' then some a else none
      | none => none
    | _ => none
  | .arr z e r => match m.lookup n with
    | none => bif isMap e then none else some [.mk (.sl r) []]
    | some o => bif Nat.ble 3000000 o then (bif isMap e then none else some [.mk (.sl r) []]) else rdArr st z e r o
  | .pin e r => rdArr st false e r n
/-- First the boxes' own rows are met, then the rows are read. -/
def rdBoxMaps (st : St) : List (Nat × BK) → Option (List (Nat × Nat))
  | [] => some []
  | (n, .box t ks) :: rest => match st.ent n with
    | .box _ xs => match rdLeaves st ks xs, rdBoxMaps st rest with
      | some (_, m), some m' => some (m ++ m')
      | _, _ => none
    | _ => none
  | (_, .arr _ _ _) :: rest => rdBoxMaps st rest
  | (_, .pin _ _) :: rest => rdBoxMaps st rest
def rdBs (st : St) (m : List (Nat × Nat)) : List (Nat × BK) → Option (List DV)
  | [] => some []
  | (n, k) :: ks => match rdB st m n k, rdBs st m ks with
    | some a, some b => some (a ++ b)
    | _, _ => none
/-- Slots that keep their names: variables, pinned rows. -/
def boxIds : List (Nat × BK) → List Nat
  | [] => []
  | (n, .box _ _) :: ss => n :: boxIds ss
  | (n, .pin _ _) :: ss => n :: boxIds ss
  | (_, .arr _ _ _) :: ss => boxIds ss
/-- The rows' names agree: each new one stands for one old one, and no two for the same. -/
def agree : List (Nat × Nat) → Bool
  | [] => true
  | (n, o) :: rest => (rest.all fun p => Nat.beq p.1 n == Nat.beq p.2 o) && agree rest
def rdAll (sh : Shape) (st : St) : Option (List DV × List (Nat × Nat)) :=
  match rdTs st sh.tmps, rdBoxMaps st sh.slots with
  | some (a, m), some m' => match rdBs st (m ++ m') sh.slots with
    | some b => bif agree (m ++ m') && disjB (boxIds sh.slots) ((m ++ m').map (·.2)) then some (a ++ b, m ++ m') else none
    | none => none
  | _, _ => none
def rd (sh : Shape) (st : St) : Option (Prod' sh.tys) := match rdAll sh st with
  | some (ds, _) => toProd sh.tys ds
  | none => none
/-- Rows that a shape reads as data. -/
def pureSlots (sh : Shape) (st : St) : List Nat := match rdAll sh st with
  | some (_, m) => (m.filter fun p => Nat.ble 1000000 p.1).map (·.2)
  | none => []
def frzOne (st : St) (o : Nat) : St := match st.ent o with
  | .arr _ e r l => bif isMap e then st else st.setB o (.frz r l)
  | _ => st
def frzAll : St → List Nat → St
  | st, [] => st
  | st, o :: os => frzAll (frzOne st o) os
/-! #### the state of a shape -/
def one1 : List Leaf → Leaf
  | [y] => y
  | _ => .unk
def mkLeaf : LK → List DV → Leaf × List DV
  | .v _, .mk t x :: ds => (one1 (leaves t x), ds)
  | .v _, [] => (.unk, [])
  | .bor _, .mk t x :: ds => (borL (one1 (leaves t x)), ds)
  | .bor _, [] => (.unk, [])
  | .rp _, .mk t x :: ds => (.rp t x, ds)
  | .rp _, [] => (.unk, [])
  | .own n, ds => (.own n, ds)
  | .ptr b off, ds => (.ptr b off, ds)
  | .pin n, ds => (.own n, ds)
  | .no, ds => (.unk, ds)
def mkLeaves : List LK → List DV → List Leaf × List DV
  | [], ds => ([], ds)
  | k :: ks, ds => ((mkLeaf k ds).1 :: (mkLeaves ks (mkLeaf k ds).2).1, (mkLeaves ks (mkLeaf k ds).2).2)
def mkT : TK → List DV → AV × List DV
  | .one k, ds => (.one (mkLeaf k ds).1, (mkLeaf k ds).2)
  | .agg ks, ds => (.agg (mkLeaves ks ds).1, (mkLeaves ks ds).2)
  | .eptr ks, ds => (.eptr (mkLeaves ks ds).1, (mkLeaves ks ds).2)
  | .fn f ks, ds => (.fn f (mkLeaves ks ds).1, (mkLeaves ks ds).2)
def mkTs : List (Nat × TK) → List DV → List AV → List AV × List DV
  | [], ds, ts => (ts, ds)
  | (i, k) :: ks, ds, ts => mkTs ks (mkT k ds).2 (setL .unk ts i (mkT k ds).1)
def mkArr (z : Bool) (e : TypeId) (r : Ty) : DV → Ent
  | .mk (.sl r') l => match castL (r := r) l with
    | some l => .arr z e r l
    | none => .free
  | _ => .free
def mkB : BK → List DV → Ent × List DV
  | .box t ks, ds => (.box t (mkLeaves ks ds).1, (mkLeaves ks ds).2)
  | .arr z e r, d :: ds => (mkArr z e r d, ds)
  | .arr _ _ _, [] => (.free, [])
  | .pin e r, d :: ds => (mkArr false e r d, ds)
  | .pin _ _, [] => (.free, [])
def mkBs : List (Nat × BK) → List DV → List Ent → List Ent
  | [], _, hs => hs
  | (i, k) :: ks, ds, hs => mkBs ks (mkB k ds).2 (setL .free hs i (mkB k ds).1)
/-- The state of a shape over a state: the shape's slots are laid over. -/
def lay (sh : Shape) (ts : List AV) (hs : List Ent) (n : Nat) (x : Prod' sh.tys) : St :=
  let r := mkTs sh.tmps (ofProd sh.tys x) ts
  { n := n, tmps := r.1, gs := [], heap := mkBs sh.slots r.2 hs, nb := sh.nb, lim := 1000000, res := [] }
def mk (sh : Shape) (n : Nat) (x : Prod' sh.tys) : St := lay sh [] [] n x

/-! ### 10. code -/
inductive Ex where
  | nrm
  | exit (id : Nat)
  | ret
def Ex.beq : Ex → Ex → Bool
  | .nrm, .nrm => true
  | .ret, .ret => true
  | .exit a, .exit b => Nat.beq a b
  | _, _ => false
/-- What a summary may end in. -/
@[reducible] def Outs : List (Ex × Shape) → Type
  | [] => Empty
  | [o] => Prod' o.2.tys
  | o :: os => Prod' o.2.tys ⊕ Outs os
structure Summ where
  n : Nat
  ish : Shape
  outs : List (Ex × Shape)
  f : Prod' ish.tys → Option (Outs outs)
def LK.nb : LK → Bool
  | .bor _ => false
  | .rp _ => false
  | _ => true
def TK.nb : TK → Bool
  | .one k => k.nb
  | .agg ks => ks.all LK.nb
  | .eptr _ => false
  | .fn _ ks => ks.all LK.nb
def BK.nb : BK → Bool
  | .box _ ks => ks.all LK.nb
  | .arr _ _ _ => true
  | .pin _ _ => true
/-- An end's slots: variables that were there, or new names; it tells of nothing that is borrowed. -/
def outOk (ish osh : Shape) : Bool :=
  (osh.tmps.all fun p => p.2.nb) && (osh.slots.all fun p => p.2.nb) &&
  (osh.slots.all fun p => (match p.2 with
    | .box _ _ => (boxIds ish.slots).any (Nat.beq p.1)
    | .pin _ _ => (boxIds ish.slots).any (Nat.beq p.1)
    | .arr _ _ _ => false) || Nat.ble ish.nb p.1) && (osh.slots.all fun p => Nat.blt p.1 osh.nb) && Nat.ble ish.nb osh.nb && nodupB (osh.slots.map (·.1))
def arrIds : List (Nat × BK) → List Nat
  | [] => []
  | (n, .arr _ _ _) :: ss => n :: arrIds ss
  | _ :: ss => arrIds ss
def lkOk (sh : Shape) : LK → Bool
  | .ptr b _ => (boxIds sh.slots).any (Nat.beq b)
  | .pin b => (boxIds sh.slots).any (Nat.beq b)
  | .own n => (arrIds sh.slots).any (Nat.beq n)
  | _ => true
def TK.lks : TK → List LK
  | .one k => [k]
  | .agg ks => ks
  | .eptr ks => ks
  | .fn _ ks => ks
def BK.lks : BK → List LK
  | .box _ ks => ks
  | .arr _ _ _ => []
  | .pin _ _ => []
def shOk (sh : Shape) : Bool := nodupB (sh.slots.map (·.1)) && nodupB (sh.tmps.map (·.1)) && (sh.slots.all fun p => Nat.blt p.1 sh.nb && Nat.blt p.1 1000000) &&
  (sh.tmps.all fun p => p.2.lks.all (lkOk sh)) && sh.slots.all fun p => p.2.lks.all (lkOk sh)
def Summ.ok (s : Summ) : Bool := shOk s.ish && s.outs.all fun o => outOk s.ish o.2 && shOk o.2
inductive Plan where
  | auto
  | sum (s : Summ)
  | two (p q : Plan)
  | one (p : Plan)
def Plan.l : Plan → Plan
  | .two p _ => p
  | _ => .auto
def Plan.r : Plan → Plan
  | .two _ q => q
  | _ => .auto
def Plan.o : Plan → Plan
  | .one p => p
  | _ => .auto
def dsts : Code → List Nat
  | .region _ ops _ => ops.toList.filterMap (·.dst)
  | .seq a b => dsts a ++ dsts b
  | .cond _ a b => dsts a ++ dsts b
  | .block _ a => dsts a
  | .loop a => dsts a
  | .scope a => dsts a
  | _ => []
def dropT (ds : List Nat) (ts : List AV) : List AV := ds.foldl (fun ts i => setL .unk ts i .unk) ts
def dropB (ss : List Nat) (hs : List Ent) : List Ent := ss.foldl (fun hs i => setL .free hs i .free) hs
/-- The slots that a shape reads. -/
def usedSlots (sh : Shape) (st : St) : List Nat := match rdAll sh st with
  | some (_, m) => boxIds sh.slots ++ m.map (·.2)
  | none => []
/-- The state behind a summary. -/
def behind (ds us : List Nat) (osh : Shape) (st : St) (y : Prod' osh.tys) : St :=
  lay osh (dropT ds st.tmps) (dropB us st.heap) st.n y
def outK {R : Type} (ds us : List Nat) (st : St) (K : Ex → St → Option R) : (os : List (Ex × Shape)) → Outs os → Option R
  | [], y => nomatch y
  | [o], y => K o.1 (behind ds us o.2 st y)
  | o :: o' :: os, y => match y with
    | .inl y => K o.1 (behind ds us o.2 st y)
    | .inr y => outK ds us st K (o' :: os) y
/-- Reading an end by the ends of a summary. -/
def rdOut (e : Ex) (st : St) : (os : List (Ex × Shape)) → Option (Outs os)
  | [] => none
  | [o] => bif o.1.beq e then rd o.2 st else none
  | o :: o' :: os => bif o.1.beq e then (match rd o.2 st with
    | some y => some (.inl y)
    | none => none) else match rdOut e st (o' :: os) with
    | some y => some (.inr y)
    | none => none
section
variable (C : Ctx)
def V {R : Type} (p : Plan) (c : Code) (st : St) (K : Ex → St → Option R) : Option R :=
  match p with
  | .sum s =>
    let st1 := frzAll st (pureSlots s.ish st)
    bif plainB st && Nat.beq st.n s.n && (Nat.ble st.nb s.ish.nb && (pureSlots s.ish st1).isEmpty) then match rd s.ish st1 with
      | some x => (s.f x).bind fun y => outK (dsts c) (usedSlots s.ish st1) st1 K s.outs y
      | none => none
    else none
  | p => match c with
    | .skip => K .nrm st
    | .region _ ops false => runOps C ops ops.toList st fun st' => K .nrm st'
    | .region _ ops true => drawAll C ops st fun st' => K .nrm st'
    | .seq a b => V p.l a st fun e st' => match e with
      | .nrm => V p.r b st' K
      | e => K e st'
    | .cond x a b => match x with
      | .tmp t => known 1 t st fun st' => match st'.tmp t with
        | .one (.kb true) => V p.l a st' K
        | .one (.kb false) => V p.r b st' K
        | _ => none
      | .const (.bool true) => V p.l a st K
      | .const (.bool false) => V p.r b st K
      | _ => none
    | .block id a => V p.o a st fun e st' => match e with
      | .exit j => bif Nat.beq j id then K .nrm st' else K (.exit j) st'
      | e => K e st'
    | .exit id => K (.exit id) st
    | .ret => K .ret st
    | _ => none
end

/-! ### 11. signatures -/
/-- A leaf of a parameter: data for good; data to read; a row to write. -/
inductive PL where
  | v
  | ro
  | own (e : TypeId)
def PL.lm : PL → LM
  | .v => .v
  | .ro => .ro
  | .own _ => .rw
inductive PK where
  | val (agg : Bool) (t : Ty) (ms : List PL)
  | rptr (t : Ty)
  | ref (tid : TypeId) (t : Ty) (ms : List PL)
  | fn (f : FuncId) (caps : List (TypeId × Ty × List PL))
  | mv (e : TypeId) (r : Ty)
inductive RK where
  | v (t : Ty)
  | own (e : TypeId) (r : Ty)
/-- A result: a value; a pointer to a new variable. -/
inductive SK where
  | val (agg : Bool) (ks : List RK)
  | box (tid : TypeId) (ks : List RK)
structure Sig where
  ps : List PK
  rs : List SK
  ntmps : Nat
def PK.pm : PK → PM
  | .val _ _ ms => .val (ms.map PL.lm)
  | .rptr _ => .rptr
  | .ref _ _ ms => .ref (ms.map PL.lm)
  | .fn f cs => .fn f (cs.map fun c => c.2.2.map PL.lm)
  | .mv _ _ => .mv
def Sig.ms (s : Sig) : List PM := s.ps.map PK.pm
def PK.tys : PK → List Ty
  | .val _ t _ => [t]
  | .rptr t => [t]
  | .ref _ t _ => [t]
  | .fn _ cs => cs.map fun c => c.2.1
  | .mv _ r => [.sl r]
def insOf : List PK → List Ty
  | [] => []
  | p :: ps => p.tys ++ insOf ps
def RK.ty : RK → Ty
  | .v t => t
  | .own _ r => .sl r
def SK.ks : SK → List RK
  | .val _ ks => ks
  | .box _ ks => ks
/-- A lent variable's leaves, as they come back. -/
def backKs : List Ty → List PL → List RK
  | .sl r :: ts, .own e :: ms => .own e r :: backKs ts ms
  | t :: ts, _ :: ms => .v t :: backKs ts ms
  | _, _ => []
/-- A value's lent rows. -/
def rowKs : List Ty → List PL → List (TypeId × Ty)
  | .sl r :: ts, .own e :: ms => (e, r) :: rowKs ts ms
  | _ :: ts, _ :: ms => rowKs ts ms
  | _, _ => []
def capsKs : List (TypeId × Ty × List PL) → List RK
  | [] => []
  | c :: cs => bif Nat.beq c.1 roT then capsKs cs else backKs (leafTys c.2.1) c.2.2 ++ capsKs cs
def PK.back : PK → List Ty
  | .val _ t ms => (rowKs (leafTys t) ms).map fun p => .sl p.2
  | .rptr _ => []
  | .ref _ t ms => (backKs (leafTys t) ms).map RK.ty
  | .fn _ cs => (capsKs cs).map RK.ty
  | .mv _ _ => []
def backOf : List PK → List Ty
  | [] => []
  | p :: ps => p.back ++ backOf ps
def resTys : List SK → List Ty
  | [] => []
  | p :: ps => p.ks.map RK.ty ++ resTys ps
def Sig.ins (s : Sig) : List Ty := insOf s.ps
def Sig.outs (s : Sig) : List Ty := resTys s.rs ++ backOf s.ps
/-! #### the state at a function's beginning -/
def leafIn : PL → Leaf → Nat → Leaf × List Ent
  | .ro, x, _ => (borL x, [])
  | .own e, .list r l, nb => (.own nb, [.arr false e r l])
  | _, x, _ => (x, [])
def leavesIn : List PL → List Leaf → Nat → List Leaf × List Ent
  | m :: ms, x :: xs, nb =>
    let a := leafIn m x nb
    let b := leavesIn ms xs (nb + a.2.length)
    (a.1 :: b.1, a.2 ++ b.2)
  | _, _, _ => ([], [])
def boxIn (tid : TypeId) (ms : List PL) (xs : List Leaf) (nb : Nat) : List Ent :=
  let a := leavesIn ms xs (nb + 1)
  .box tid a.1 :: a.2
def capsIn : List (TypeId × Ty × List PL) → List DV → Nat → List Leaf × List Ent
  | (tid, _, ms) :: cs, .mk t' x :: ds, nb => bif Nat.beq tid roT then
    let b := capsIn cs ds nb
    (.rp t' x :: b.1, b.2)
    else
    let a := boxIn tid ms (leaves t' x) nb
    let b := capsIn cs ds (nb + a.length)
    (.ptr nb 0 :: b.1, a ++ b.2)
  | _, _, _ => ([], [])
def entry : List PK → List DV → Nat → List AV × List Ent
  | .val ag _ ms :: ps, .mk t' x :: ds, nb =>
    let a := leavesIn ms (leaves t' x) nb
    let r := entry ps ds (nb + a.2.length)
    (mk1 ag a.1 :: r.1, a.2 ++ r.2)
  | .rptr _ :: ps, .mk t' x :: ds, nb =>
    let r := entry ps ds nb
    (.eptr ((leaves t' x).map borL) :: r.1, r.2)
  | .ref tid _ ms :: ps, .mk t' x :: ds, nb =>
    let a := boxIn tid ms (leaves t' x) nb
    let r := entry ps ds (nb + a.length)
    (.one (.ptr nb 0) :: r.1, a ++ r.2)
  | .fn f cs :: ps, ds, nb =>
    let a := capsIn cs ds nb
    let r := entry ps (ds.drop cs.length) (nb + a.2.length)
    (.fn f a.1 :: r.1, a.2 ++ r.2)
  | .mv e _ :: ps, .mk (.sl r') l :: ds, nb =>
    let r := entry ps ds (nb + 1)
    (.one (.own nb) :: r.1, .arr false e r' l :: r.2)
  | _, _, _ => ([], [])
def Sig.start (s : Sig) (x : Prod' s.ins) : St :=
  let r := entry s.ps (ofProd s.ins x) 0
  { n := s.ntmps, tmps := r.1, gs := [], heap := r.2, nb := r.2.length, lim := 1000000, res := [] }
/-! #### results -/
/-- Leaves of a result, by kinds; with them the rows' slots: handed on as rows; told as data. -/
structure DR where
  ds : List DV
  owns : List Nat
  pures : List Nat
def decOwn (st : St) (e : TypeId) (r : Ty) : Leaf → Option DR
  | .own n => match st.ent n with
    | .arr false e' _ l => match castL (r := r) l with
      | some l => bif Nat.beq e e' then some ⟨[.mk (.sl r) l], [n], []⟩ else none
      | none => none
    | _ => none
  | .nil => bif isMap e then none else some ⟨[.mk (.sl r) []], [], []⟩
  | _ => none
def decV (st : St) (t : Ty) (x : Leaf) : Option DR := match pureOf st t x with
  | some (y, ns) => some ⟨[.mk t y], [], ns⟩
  | none => none
def decK (st : St) : RK → Leaf → Option DR
  | .own e r, x => decOwn st e r x
  | .v t, x => decV st t x
def DR.app (a b : DR) : DR := ⟨a.ds ++ b.ds, a.owns ++ b.owns, a.pures ++ b.pures⟩
def decRK (st : St) : List RK → List Leaf → Option DR
  | [], [] => some ⟨[], [], []⟩
  | k :: ks, x :: xs => match decK st k x, decRK st ks xs with
    | some a, some b => some (a.app b)
    | _, _ => none
  | _, _ => none
/-- The leaves of a result. -/
def cellOf (ti : Tab TI) (agg : Bool) (ty : TypeId) (xs : List Leaf) : Option (List Leaf) := match ti.get ty with
  | some i => bif (i.agg == agg) && Nat.beq (bif agg then i.sz else 1) xs.length then some xs else none
  | none => none
def compT (agg : Bool) : AV → Option (List Leaf)
  | .one x => bif agg then none else some [x]
  | .agg xs => bif agg then some xs else none
  | _ => none
def compC (ti : Tab TI) (st : St) (agg : Bool) (ty : TypeId) : AV → Option (List Leaf)
  | .one (.ptr b 0) => match st.ent b with
    | .box _ xs => cellOf ti agg ty xs
    | _ => none
  | _ => none
def compOf (ti : Tab TI) (st : St) (agg : Bool) : ResultVar → Option (List Leaf)
  | .tmp t => compT agg (st.tmp t)
  | .cell p ty => compC ti st agg ty (st.tmp p)
/-- A variable's leaves, and the variable. -/
def boxOfR (st : St) (tid : TypeId) (x : List Leaf) : Option (List Leaf × Nat) := match x with
  | [.ptr b 0] => match st.ent b with
    | .box t xs => bif Nat.beq t tid then some (xs, b) else none
    | _ => none
  | _ => none
def decSK (ti : Tab TI) (st : St) (v : ResultVar) : SK → Option (DR × List Nat)
  | .val a ks => match compOf ti st a v with
    | some xs => match decRK st ks xs with
      | some d => some (d, [])
      | none => none
    | none => none
  | .box tid ks => match compOf ti st false v with
    | some xs => match boxOfR st tid xs with
      | some (ys, b) => match decRK st ks ys with
        | some d => some (d, [b])
        | none => none
      | none => none
    | none => none
def DR.nil : DR := ⟨[], [], []⟩
def decRes (ti : Tab TI) (st : St) : List SK → List ResultVar → Option (DR × List Nat)
  | [], [] => some (DR.nil, [])
  | k :: rs, v :: vs => match decSK ti st v k, decRes ti st rs vs with
    | some a, some b => some (a.1.app b.1, a.2 ++ b.2)
    | _, _ => none
  | _, _ => none
/-- What was lent, at the end: the values; the slots of variables and lent rows. -/
def backRows (st : St) : List (TypeId × Ty) → Nat → Option (List DV)
  | [], _ => some []
  | (e, r) :: ks, n => match decOwn st e r (.own n), backRows st ks (n + 1) with
    | some a, some b => some (a.ds ++ b)
    | _, _ => none
def backBox (st : St) (tid : TypeId) (ks : List RK) (n : Nat) : Option DR := match st.ent n with
  | .box t xs => bif Nat.beq t tid then decRK st ks xs else none
  | _ => none
def rowsN (ts : List Ty) (ms : List PL) : Nat := (rowKs ts ms).length
def backCaps (st : St) : List (TypeId × Ty × List PL) → Nat → Option DR
  | [], _ => some DR.nil
  | (tid, t, ms) :: cs, n => bif Nat.beq tid roT then backCaps st cs n else match backBox st tid (backKs (leafTys t) ms) n, backCaps st cs (n + 1 + rowsN (leafTys t) ms) with
    | some a, some b => some (a.app b)
    | _, _ => none
def capsN : List (TypeId × Ty × List PL) → Nat
  | [] => 0
  | (tid, t, ms) :: cs => bif Nat.beq tid roT then capsN cs else 1 + rowsN (leafTys t) ms + capsN cs
def backPs (st : St) : List PK → Nat → Option (DR × List Nat)
  | [], _ => some (DR.nil, [])
  | .val _ t ms :: ps, n => match backRows st (rowKs (leafTys t) ms) n, backPs st ps (n + rowsN (leafTys t) ms) with
    | some a, some b => some (⟨a ++ b.1.ds, b.1.owns, b.1.pures⟩, (List.range (rowsN (leafTys t) ms)).map (n + ·) ++ b.2)
    | _, _ => none
  | .rptr _ :: ps, n => backPs st ps n
  | .ref tid t ms :: ps, n => match backBox st tid (backKs (leafTys t) ms) n, backPs st ps (n + 1 + rowsN (leafTys t) ms) with
    | some a, some b => some (a.app b.1, b.2)
    | _, _ => none
  | .fn _ cs :: ps, n => match backCaps st cs n, backPs st ps (n + capsN cs) with
    | some a, some b => some (a.app b.1, b.2)
    | _, _ => none
  | .mv _ _ :: ps, n => backPs st ps (n + 1)
def refsOf : List PK → Nat → List Nat
  | [], _ => []
  | .val _ t ms :: ps, n => refsOf ps (n + rowsN (leafTys t) ms)
  | .rptr _ :: ps, n => refsOf ps n
  | .ref _ t ms :: ps, n => n :: refsOf ps (n + 1 + rowsN (leafTys t) ms)
  | .fn _ cs :: ps, n => capRefs cs n ++ refsOf ps (n + capsN cs)
  | .mv _ _ :: ps, n => refsOf ps (n + 1)
where
  capRefs : List (TypeId × Ty × List PL) → Nat → List Nat
  | [], _ => []
  | (tid, t, ms) :: cs, n => bif Nat.beq tid roT then capRefs cs n else n :: capRefs cs (n + 1 + rowsN (leafTys t) ms)
def Sig.read (ti : Tab TI) (s : Sig) (vs : List ResultVar) (st : St) : Option (Prod' s.outs) := match decRes ti st s.rs vs, backPs st s.ps 0 with
  | some a, some b =>
    bif nodupB (a.1.owns ++ b.1.owns ++ b.2) && disjB (a.1.owns ++ b.1.owns ++ b.2) (a.1.pures ++ b.1.pures) && nodupB (a.2 ++ refsOf s.ps 0) then toProd s.outs (a.1.ds ++ b.1.ds) else none
  | _, _ => none
def Sig.done (ti : Tab TI) (s : Sig) (vs : List ResultVar) (e : Ex) (st : St) : Option (Prod' s.outs) :=
  match e with
  | .exit _ => none
  | _ => s.read ti vs st
/-- What a function of a signature computes, out of its text. -/
def Sig.ev (C : Ctx) (s : Sig) (p : Plan) (vs : List ResultVar) (c : Code) (x : Prod' s.ins) : Option (Prod' s.outs) :=
  V C p c (s.start x) (s.done C.ti vs)
/-! #### the contract of a signature and a Lean function -/
def decCL : PL → CL → Option Leaf
  | .v, .leaf (.bor _ _) => none
  | .v, .leaf x => some x
  | .ro, .leaf (.bor r l) => some (.list r l)
  | .ro, .leaf x => some x
  | .own e, .row e' r l => bif Nat.beq e e' then some (.list r l) else none
  | .own e, .nil => bif isMap e then none else some .nil
  | _, _ => none
def decCLs : List PL → List CL → Option (List Leaf)
  | [], [] => some []
  | m :: ms, x :: xs => match decCL m x, decCLs ms xs with
    | some a, some b => some (a :: b)
    | _, _ => none
  | _, _ => none
def unB : Leaf → Leaf
  | .bor r l => .list r l
  | x => x
def dv (t : Ty) (xs : Option (List Leaf)) : Option DV := match xs with
  | some xs => match unlA t xs with
    | some x => some (.mk t x)
    | none => none
  | none => none
def decCaps : List (TypeId × Ty × List PL) → List (TypeId × List CL) → Option (List DV)
  | [], [] => some []
  | (tid, t, ms) :: cs, (tid', xs) :: asx => bif Nat.beq tid tid' then match dv t (decCLs ms xs), decCaps cs asx with
    | some x, some ds => some (x :: ds)
    | _, _ => none
    else none
  | _, _ => none
/-- The front of some leaves, as a value. -/
def unlF (t : Ty) (xs : List Leaf) : Option DV := match unl t xs with
  | some (x, _) => some (.mk t x)
  | none => none
def decArg : PK → CArg → Option (List DV)
  | .val a t ms, .val a' xs => bif a == a' then match dv t (decCLs ms xs) with
    | some x => some [x]
    | none => none
    else none
  | .rptr t, .rptr xs => match unlF t (xs.map unB) with
    | some x => some [x]
    | none => none
  | .ref tid t ms, .ref tid' xs => bif Nat.beq tid tid' then match dv t (decCLs ms xs) with
    | some x => some [x]
    | none => none
    else none
  | .fn f cs, .fn f' asx => bif Nat.beq f f' then decCaps cs asx else none
  | .mv e r, .mv e' r' l => bif Nat.beq e e' then match dv (.sl r) (some [.list r' l]) with
    | some x => some [x]
    | none => none
    else none
  | _, _ => none
def decArgs : List PK → List CArg → Option (List DV)
  | [], [] => some []
  | p :: ps, a :: asx => match decArg p a, decArgs ps asx with
    | some x, some ds => some (x ++ ds)
    | _, _ => none
  | _, _ => none
def encRK : List RK → List DV → List RL × List DV
  | [], ds => ([], ds)
  | .v _ :: ks, .mk t x :: ds => ((leaves t x).map .leaf ++ (encRK ks ds).1, (encRK ks ds).2)
  | .own e _ :: ks, .mk t x :: ds => ((match t, x with
    | .sl r, l => [.own e r l]
    | _, _ => []) ++ (encRK ks ds).1, (encRK ks ds).2)
  | _ :: _, [] => ([], [])
def encRes : List SK → List DV → List RC × List DV
  | [], ds => ([], ds)
  | .val a ks :: rs, ds => (.val a (encRK ks ds).1 :: (encRes rs (encRK ks ds).2).1, (encRes rs (encRK ks ds).2).2)
  | .box t ks :: rs, ds => (.box t (encRK ks ds).1 :: (encRes rs (encRK ks ds).2).1, (encRes rs (encRK ks ds).2).2)
def encRows : List (TypeId × Ty) → List DV → List RF × List DV
  | [], ds => ([], ds)
  | k :: ks, .mk t x :: ds => ((match t, x with
    | .sl r, l => [.row k.1 r l]
    | _, _ => []) ++ (encRows ks ds).1, (encRows ks ds).2)
  | _ :: _, [] => ([], [])
def encCaps : List (TypeId × Ty × List PL) → List DV → List RF × List DV
  | [], ds => ([], ds)
  | (tid, t, ms) :: cs, ds => bif Nat.beq tid roT then encCaps cs ds else (.box tid (encRK (backKs (leafTys t) ms) ds).1 :: (encCaps cs (encRK (backKs (leafTys t) ms) ds).2).1, (encCaps cs (encRK (backKs (leafTys t) ms) ds).2).2)
def encBack : PK → List DV → List RF × List DV
  | .val _ t ms, ds => encRows (rowKs (leafTys t) ms) ds
  | .rptr _, ds => ([], ds)
  | .ref tid t ms, ds => ([.box tid (encRK (backKs (leafTys t) ms) ds).1], (encRK (backKs (leafTys t) ms) ds).2)
  | .fn _ cs, ds => encCaps cs ds
  | .mv _ _, ds => ([], ds)
def encBacks : List PK → List DV → List RF
  | [], _ => []
  | p :: ps, ds => (encBack p ds).1 ++ encBacks ps (encBack p ds).2
def Sig.enc (s : Sig) (y : Prod' s.outs) : RR :=
  let r := encRes s.rs (ofProd s.outs y)
  { res := r.1, refs := encBacks s.ps r.2 }
def Sig.run (s : Sig) (f : Prod' s.ins → Option (Prod' s.outs)) (asx : List CArg) : CR :=
  match decArgs s.ps asx with
  | some ds => match toProd s.ins ds with
    | some x => .opt _ (f x) s.enc
    | none => .fail
  | none => .fail
def Sig.con (s : Sig) (f : Prod' s.ins → Option (Prod' s.outs)) : Con := { ms := s.ms, f := s.run f }
end Go.Proofs.YtcnkbllbpimaiaaGreatDoorE

namespace Go.Proofs.YtcnkbllbpimaiaaGreatDoorE
open Go Go.RowKit
set_option linter.unusedVariables false

theorem getL_nil {α : Type} (d : α) (j : Nat) : getL d [] j = d := by cases j <;> rfl
theorem getL_setL {α : Type} (d : α) : ∀ (l : List α) (i j : Nat) (y : α), getL d (setL d l i y) j = if i = j then y else getL d l j
  | [], 0, j, y => by cases j <;> simp [setL, getL]
  | [], i + 1, j, y => by
    cases j with
    | zero => simp [setL, getL]
    | succ j => simp [setL, getL, getL_setL d [] i j y, getL_nil]
  | x :: xs, 0, j, y => by cases j <;> simp [setL, getL]
  | x :: xs, i + 1, j, y => by
    cases j with
    | zero => simp [setL, getL]
    | succ j => simp [setL, getL, getL_setL d xs i j y]

/-! ### 1. data in memory -/
def ba (s : Str) : ByteArray := ⟨⟨s⟩⟩
theorem ba_data (s : ByteArray) : ba s.data.toList = s := rfl
def CellsAt (w : World) (g o : Nat) (cs : List Value) : Prop := ∀ (i : Nat) (v : Value), cs[i]? = some v → w.cell? ⟨g, o + i, none⟩ = some v
def Rep (w : World) (F : Nat → Prop) : (t : Ty) → t.T → List Value → Prop
  | .int k, n, cs => cs = [.int k n]
  | .bool, b, cs => cs = [.bool b]
  | .str, s, cs => cs = [.string (ba s)]
  | .sl r, l, cs => ∃ A c, cs = [.slice A l.length c] ∧ l.length ≤ c ∧ (l = [] ∨ ∃ g o, A = some ⟨g, o, none⟩ ∧ F g ∧ ∀ (j : Nat) (x : r.T), l[j]? = some x → ∃ c, CellsAt w g (o + j * r.sz) c ∧ Rep w F r x c)
  | .pair a b, x, cs => ∃ c1 c2, cs = c1 ++ c2 ∧ Rep w F a x.1 c1 ∧ Rep w F b x.2 c2
  | .unit, _, cs => cs = []
theorem Rep.len {w : World} {F : Nat → Prop} : ∀ {t : Ty} {x : t.T} {cs : List Value}, Rep w F t x cs → cs.length = t.sz
  | .int _, _, _, h => by cases h; rfl
  | .bool, _, _, h => by cases h; rfl
  | .str, _, _, h => by cases h; rfl
  | .sl _, _, _, h => by obtain ⟨A, c, rfl, _⟩ := h; rfl
  | .pair a b, _, _, h => by
    obtain ⟨c1, c2, rfl, h1, h2⟩ := h
    rw [List.length_append, Rep.len h1, Rep.len h2]; rfl
  | .unit, _, _, h => by cases h; rfl
theorem Rep.one {w : World} {F : Nat → Prop} : ∀ {t : Ty} {x : t.T} {cs : List Value}, Rep w F t x cs → ∀ u ∈ cs, u.oneCell' = true
  | .int _, _, _, h, u, hu => by cases h; rw [List.mem_singleton.1 hu]; rfl
  | .bool, _, _, h, u, hu => by cases h; rw [List.mem_singleton.1 hu]; rfl
  | .str, _, _, h, u, hu => by cases h; rw [List.mem_singleton.1 hu]; rfl
  | .sl _, _, _, h, u, hu => by obtain ⟨A, c, rfl, _⟩ := h; rw [List.mem_singleton.1 hu]; rfl
  | .pair a b, _, _, h, u, hu => by
    obtain ⟨c1, c2, rfl, h1, h2⟩ := h
    rcases List.mem_append.1 hu with hu | hu
    · exact Rep.one h1 u hu
    · exact Rep.one h2 u hu
  | .unit, _, _, h, u, hu => by cases h; cases hu
theorem CellsAt.move {w w' : World} {g o : Nat} {cs : List Value} (h : CellsAt w g o cs) (hb : w'.heap[g]? = w.heap[g]?) : CellsAt w' g o cs :=
  fun i v hv => (World.cell?_of_block (w := w) (a := ⟨g, o + i, none⟩) hb).trans (h i v hv)
theorem Rep.move {w w' : World} {F F' : Nat → Prop} (hb : ∀ b, F b → w'.heap[b]? = w.heap[b]? ∧ F' b) : ∀ {t : Ty} {x : t.T} {cs : List Value}, Rep w F t x cs → Rep w' F' t x cs
  | .int _, _, _, h => h
  | .bool, _, _, h => h
  | .str, _, _, h => h
  | .sl r, _, _, h => by
    obtain ⟨A, c, rfl, hl, h⟩ := h
    refine ⟨A, c, rfl, hl, h.imp id ?_⟩
    rintro ⟨g, o, rfl, hg, hx⟩
    refine ⟨g, o, rfl, (hb g hg).2, fun j x hj => ?_⟩
    obtain ⟨c, h1, h2⟩ := hx j x hj
    exact ⟨c, h1.move (hb g hg).1, Rep.move hb h2⟩
  | .pair a b, _, _, h => by
    obtain ⟨c1, c2, rfl, h1, h2⟩ := h
    exact ⟨c1, c2, rfl, Rep.move hb h1, Rep.move hb h2⟩
  | .unit, _, _, h => h

/-! ### 2. what the slots of blocks stand for -/
inductive Conc where
  | blk (g : Nat)
  | row (v : Value)
  | frz (v : Value)
  | dead
abbrev Rho := Nat → Option Conc
/-- The block of a slice's cells, or of a map's entries. -/
def ownB : Value → Option Nat
  | .slice (some a) _ _ => some a.block
  | .map (some g) => some g
  | _ => none
theorem ownB_slice (A : Option Addr) (n c : Nat) : ownB (.slice A n c) = (Value.slice A n c).ownBlock := by cases A <;> rfl
/-- A map's entries, with the keys l: all of them are kept with true. -/
def KeysOk : List MapEntry → List Int → Prop
  | [], [] => True
  | x :: xs, k :: ks => x.key = .int .i64 k ∧ x.val = .bool true ∧ KeysOk xs ks
  | _, _ => False
def owns : Option Conc → Nat → Prop
  | some (.blk g), b => b = g
  | some (.row v), b => ownB v = some b
  | _, _ => False
/-- Blocks that are not written any more. -/
def Fix (X : Nat → Prop) (ρ : Rho) (w : World) (b : Nat) : Prop := b < w.heap.size ∧ ¬ X b ∧ ∀ i, ¬ owns (ρ i) b
/-- Blocks that this call does not write. -/
def Brw (ρ : Rho) (w : World) (b : Nat) : Prop := b < w.heap.size ∧ ∀ i, ¬ owns (ρ i) b
/-- A slice or a map. -/
def RowV (v : Value) : Prop := (∃ A m c, v = .slice A m c) ∨ ∃ g, v = .map g
def LeafOk (X : Nat → Prop) (ρ : Rho) (w : World) : Leaf → Value → Prop
  | .int k n, v => v = .int k n
  | .bool b, v => v = .bool b
  | .kb b, v => v = .bool b
  | .str s, v => v = .string (ba s)
  | .nil, v => v = .slice none 0 0
  | .list r l, v => Rep w (Fix X ρ w) (.sl r) l [v]
  | .bor r l, v => Rep w (Brw ρ w) (.sl r) l [v]
  | .rp t x, v => ∃ g o cs, v = .pointer (some ⟨g, o, none⟩) ∧ Brw ρ w g ∧ CellsAt w g o cs ∧ Rep w (Brw ρ w) t x cs
  | .own n, v => RowV v ∧ (match ρ n with
    | some (.row u) => v = u
    | some (.frz u) => v = u
    | some .dead => True
    | _ => False)
  | .ptr b off, v => (∃ A, v = .pointer A) ∧ (match ρ b with
    | some (.blk g) => v = .pointer (some ⟨g, off, none⟩)
    | some .dead => True
    | _ => False)
  | .unk, v => v.oneCell' = true
def LeavesOk (X : Nat → Prop) (ρ : Rho) (w : World) : List Leaf → List Value → Prop
  | [], [] => True
  | x :: xs, v :: vs => LeafOk X ρ w x v ∧ LeavesOk X ρ w xs vs
  | _, _ => False
def CompOk (X : Nat → Prop) (ρ : Rho) (w : World) (p : Bool × List Leaf) (v : Value) : Prop :=
  if p.1 then ∃ cs, v = .agg cs ∧ LeavesOk X ρ w p.2 cs.toList else LeavesOk X ρ w p.2 [v]
def CompsOk (X : Nat → Prop) (ρ : Rho) (w : World) : List (Bool × List Leaf) → List Value → Prop
  | [], [] => True
  | x :: xs, v :: vs => CompOk X ρ w x v ∧ CompsOk X ρ w xs vs
  | _, _ => False
def AptrOk (c : Option Conc) (i : Int) (z off : Nat) (v : Value) : Prop := match c with
  | some (.row u) => ∃ g m c, u = .slice (some ⟨g, 0, none⟩) m c ∧ 0 ≤ i ∧ v = .pointer (some ⟨g, i.toNat * z + off, none⟩)
  | some _ => True
  | none => False
def TlOk (c : Option Conc) (i : Int) (z : Nat) (v : Value) : Prop := match c with
  | some (.row u) => 0 ≤ i ∧ ((u = .slice none 0 0 ∧ i = 0 ∧ v = .slice none 0 0) ∨ ∃ g m c, u = .slice (some ⟨g, 0, none⟩) m c ∧ i.toNat ≤ m ∧ m ≤ c ∧ v = .slice (some ⟨g, if c = i.toNat then 0 else i.toNat * z, none⟩) (m - i.toNat) (c - i.toNat))
  | some _ => True
  | none => False
def AvOk (X : Nat → Prop) (ρ : Rho) (w : World) : AV → Value → Prop
  | .unk, _ => True
  | .undef, v => v = undef
  | .one x, v => LeafOk X ρ w x v
  | .agg xs, v => ∃ cs, v = .agg cs ∧ LeavesOk X ρ w xs cs.toList
  | .tup xs, v => ∃ vs, v = .tuple vs ∧ CompsOk X ρ w xs vs.toList
  | .eptr xs, v => ∃ g o cs, v = .pointer (some ⟨g, o, none⟩) ∧ Brw ρ w g ∧ CellsAt w g o cs ∧ LeavesOk X ρ w xs cs
  | .aptr n i z off, v => AptrOk (ρ n) i z off v
  | .tl n i z, v => TlOk (ρ n) i z v
  | .full r l, v => (∃ A, v = .slice A l.length l.length) ∧ Rep w (Brw ρ w) (.sl r) l [v]
  | .fn f xs, v => ∃ cs, v = .func (.func f) #[] cs ∧ LeavesOk X ρ w xs cs.toList
  | .gd _ _ _, _ => False
/-- A guarded value. -/
def GdOk (X : Nat → Prop) (ρ : Rho) (w : World) (tm : Nat → Value) (t : Nat) (b : Bool) (x : AV) (v : Value) : Prop :=
  (tm t = .bool b ∧ AvOk X ρ w x v) ∨ (tm t ≠ .bool b ∧ v = undef)
/-- A block's frozen part lies behind its cells. -/
def Unfr (fr : Nat × Nat) (n : Nat) : Prop := fr = (0, 0) ∨ n ≤ fr.1
def RowS (w : World) (F : Nat → Prop) (z : Bool) (e : TypeId) (r : Ty) (v : Value) (l : List r.T) : Prop :=
  (v = .slice none 0 0 ∧ l = []) ∨
  ∃ g cap cs fr, v = .slice (some ⟨g, 0, none⟩) l.length cap ∧ w.heap[g]? = some (.cells cs e fr) ∧ Unfr fr cs.size ∧ (z = false → fr = (0, 0) ∧ cap ≤ maxLen) ∧ l.length ≤ cap ∧ cs.size = cap * r.sz ∧
    ∀ (j : Nat) (x : r.T), l[j]? = some x → Rep w F r x ((cs.toList.drop (j * r.sz)).take r.sz)
/-- A map of the call's own, as a row of its keys. -/
def RowM (w : World) (r : Ty) (v : Value) (l : List r.T) : Prop := ∃ g es clk, ∃ h : r = .int .i64, v = .map (some g) ∧ w.heap[g]? = some (.map es clk) ∧ KeysOk es.toList (h ▸ l : List (Ty.int .i64).T)
def RowOk (w : World) (F : Nat → Prop) (z : Bool) (e : TypeId) (r : Ty) (v : Value) (l : List r.T) : Prop := match isMap e with
  | false => RowS w F z e r v l
  | true => z = false ∧ RowM w r v l
theorem RowOk.slice {w : World} {F : Nat → Prop} {z : Bool} {e : TypeId} {r : Ty} {v : Value} {l : List r.T} (h : RowOk w F z e r v l) (he : isMap e = false) : RowS w F z e r v l := by
  unfold RowOk at h
  rw [he] at h
  exact h
theorem RowS.ok {w : World} {F : Nat → Prop} {z : Bool} {e : TypeId} {r : Ty} {v : Value} {l : List r.T} (h : RowS w F z e r v l) (he : isMap e = false) : RowOk w F z e r v l := by
  unfold RowOk
  rw [he]
  exact h
theorem RowOk.cases {w : World} {F : Nat → Prop} {z : Bool} {e : TypeId} {r : Ty} {v : Value} {l : List r.T} (h : RowOk w F z e r v l) : (isMap e = false ∧ RowS w F z e r v l) ∨ (isMap e = true ∧ z = false ∧ RowM w r v l) := by
  unfold RowOk at h
  cases he : isMap e with
  | false => rw [he] at h; exact .inl ⟨rfl, h⟩
  | true => rw [he] at h; exact .inr ⟨rfl, h⟩
theorem RowM.ok {w : World} {F : Nat → Prop} {e : TypeId} {r : Ty} {v : Value} {l : List r.T} (h : RowM w r v l) (he : isMap e = true) : RowOk w F false e r v l := by
  unfold RowOk
  rw [he]
  exact ⟨rfl, h⟩
theorem RowOk.form {w : World} {F : Nat → Prop} {z : Bool} {e : TypeId} {r : Ty} {v : Value} {l : List r.T} (h : RowOk w F z e r v l) : RowV v := by
  rcases h.cases with ⟨_, h⟩ | ⟨_, _, g, _, _, _, rfl, _⟩
  · rcases h with ⟨rfl, _⟩ | ⟨_, _, _, _, rfl, _⟩ <;> exact .inl ⟨_, _, _, rfl⟩
  · exact .inr ⟨_, rfl⟩
def EntOk (X : Nat → Prop) (ρ : Rho) (w : World) : Ent → Option Conc → Prop
  | .free, _ => True
  | .box t xs, c => ∃ g cs fr, c = some (.blk g) ∧ w.heap[g]? = some (.cells cs t fr) ∧ Unfr fr cs.size ∧ LeavesOk X ρ w xs cs.toList
  | .arr z e r l, c => ∃ v, c = some (.row v) ∧ RowOk w (Fix X ρ w) z e r v l
  | .frz r l, c => ∃ v, c = some (.frz v) ∧ Rep w (Fix X ρ w) (.sl r) l [v]
def tmOf (a : Act) (i : Nat) : Value := a.tmps.getD i undef
/-- Names of blocks that stand for nothing yet. -/
def St.fr (st : St) (i : Nat) : Prop := (st.nb ≤ i ∧ i < st.lim) ∨ ∃ p ∈ st.res, p.1 ≤ i ∧ i < p.2
def Free (ρ : Rho) (st : St) : Prop := (∀ i, st.fr i → ρ i = none) ∧ ∀ p ∈ st.res, p.2 ≤ st.nb ∨ st.lim ≤ p.1
/-- The package-level variables hold what was laid. -/
def Gl1 (w : World) (n : Nat) (r : Ty) (l : List r.T) : Prop :=
  n < w.heap.size ∧ Rep w (fun b => b = n) (.sl r) l [.slice (some ⟨n, 0, none⟩) l.length l.length] ∧ ∃ cs ty fr, w.heap[n]? = some (.cells cs ty fr) ∧ cs.size = l.length * r.sz
/-- A variable of one cell that holds some number of its kind, or some value of an interface (told by a table of no rows: `.int k`, `.unit`). -/
def GlI (w : World) (n : Nat) : Ty → Prop
  | .int k => ∃ m, w.cell? ⟨n, 0, none⟩ = some (.int k m)
  | .unit => ∃ v, w.cell? ⟨n, 0, none⟩ = some v ∧ (v = .nilIface ∨ ∃ t p, v = .iface t p)
  | _ => False
def GlK (w : World) (n : Nat) (r : Ty) : List r.T → Prop
  | [] => n < w.heap.size ∧ GlI w n r
  | x :: l => Gl1 w n r (x :: l)
def GlW (w : World) : Prop := ∀ n r l, GL n = some ⟨r, l⟩ → GlK w n r l
theorem GlK.row {w : World} {n : Nat} {r : Ty} {l : List r.T} (h : GlK w n r l) {i : Nat} {x : r.T} (hx : l[i]? = some x) : Gl1 w n r l := by
  cases l with
  | nil => cases hx
  | cons y l => exact h
theorem GlK.lt {w : World} {n : Nat} {r : Ty} {l : List r.T} (h : GlK w n r l) : n < w.heap.size := by
  cases l with
  | nil => exact h.1
  | cons y l => exact (show Gl1 w n r (y :: l) from h).1
def Glo (ρ : Rho) (w : World) : Prop := GlW w ∧ ∀ n, GL n ≠ none → ∀ i, ¬ owns (ρ i) n
/-- They do, and are none of some blocks. -/
def Glx (G : List Nat) (w : World) : Prop := GlW w ∧ ∀ n, GL n ≠ none → n ∉ G
structure Rel (X : Nat → Prop) (ρ : Rho) (st : St) (a : Act) (w : World) : Prop where
  defers : a.defers = []
  size : a.tmps.size = st.n
  sep : ∀ i j b, owns (ρ i) b → owns (ρ j) b → i = j
  lt : ∀ i b, owns (ρ i) b → b < w.heap.size ∧ ¬ X b
  ents : ∀ i, EntOk X ρ w (st.ent i) (ρ i)
  tmps : ∀ i, AvOk X ρ w (getL .unk st.tmps i) (tmOf a i)
  gs : ∀ i t b x, (i, t, b, x) ∈ st.gs → GdOk X ρ w (tmOf a) t b x (tmOf a i)
  fresh : Free ρ st
  xlt : ∀ b, X b → b < w.heap.size
  gl : Glo ρ w
/-- From one state of memory to a later one: what is known stays. -/
structure Ext (ρ : Rho) (w : World) (ρ' : Rho) (w' : World) : Prop where
  os : w'.os = w.os
  tape : w'.tape = w.tape
  output : w'.output = w.output
  size : w.heap.size ≤ w'.heap.size
  keep : ∀ b, b < w.heap.size → (∀ i, ¬ owns (ρ i) b) → w'.heap[b]? = w.heap[b]?
  own : ∀ i b, owns (ρ' i) b → (∃ j, owns (ρ j) b) ∨ w.heap.size ≤ b
  conc : ∀ i c, ρ i = some c → ρ' i = some c ∨ ρ' i = some .dead ∨ ∃ v, c = .row v ∧ ρ' i = some (.frz v)
theorem GlI.move {w w' : World} {n : Nat} (hn : w'.heap[n]? = w.heap[n]?) : ∀ {r : Ty}, GlI w n r → GlI w' n r := by
  have hc : w'.cell? ⟨n, 0, none⟩ = w.cell? ⟨n, 0, none⟩ := by
    simp only [World.cell?, hn]
  intro r h
  cases r with
  | int k =>
    obtain ⟨m, hm⟩ := h
    exact ⟨m, hc.trans hm⟩
  | unit =>
    obtain ⟨v, hv, q⟩ := h
    exact ⟨v, hc.trans hv, q⟩
  | _ => exact h.elim
theorem GlW.move {w w' : World} (h : GlW w) (hs : w.heap.size ≤ w'.heap.size) (hb : ∀ n, GL n ≠ none → w'.heap[n]? = w.heap[n]?) : GlW w' := fun n r l e => by
  have hn := hb n (by rw [e]; exact fun q => nomatch q)
  have hk := h n r l e
  cases l with
  | nil => exact ⟨Nat.lt_of_lt_of_le hk.1 hs, GlI.move hn hk.2⟩
  | cons y l =>
    obtain ⟨h1, h2, cs, ty, fr, h3, h4⟩ := (show Gl1 w n r (y :: l) from hk)
    exact (show Gl1 w' n r (y :: l) from ⟨Nat.lt_of_lt_of_le h1 hs, Rep.move (fun b hq => by subst hq; exact ⟨hn, rfl⟩) h2, cs, ty, fr, hn.trans h3, h4⟩)
theorem GlW.lt {w : World} (h : GlW w) {n : Nat} (hn : GL n ≠ none) : n < w.heap.size := by
  cases e : GL n with
  | none => exact absurd e hn
  | some p => exact (h n p.1 p.2 e).lt
theorem Glo.ext {ρ ρ' : Rho} {w w' : World} (h : Glo ρ w) (x : Ext ρ w ρ' w') : Glo ρ' w' :=
  ⟨h.1.move x.size fun n hn => x.keep n (h.1.lt hn) (h.2 n hn), fun n hn i hi => by
    rcases x.own i n hi with ⟨j, hj⟩ | hj
    · exact h.2 n hn j hj
    · exact absurd (h.1.lt hn) (Nat.not_lt.2 hj)⟩
theorem Ext.refl (ρ : Rho) (w : World) : Ext ρ w ρ w := ⟨rfl, rfl, rfl, Nat.le_refl _, fun _ _ _ => rfl, fun i _ h => .inl ⟨i, h⟩, fun _ _ h => .inl h⟩
theorem Ext.trans {ρ ρ1 ρ2 : Rho} {w w1 w2 : World} (h : Ext ρ w ρ1 w1) (k : Ext ρ1 w1 ρ2 w2) : Ext ρ w ρ2 w2 := by
  refine ⟨k.os.trans h.os, k.tape.trans h.tape, k.output.trans h.output, Nat.le_trans h.size k.size, ?_, ?_, ?_⟩
  · intro b hb hn
    refine (k.keep b (Nat.lt_of_lt_of_le hb h.size) (fun i hi => ?_)).trans (h.keep b hb hn)
    rcases h.own i b hi with ⟨j, hj⟩ | hj
    · exact hn j hj
    · omega
  · intro i b hi
    rcases k.own i b hi with ⟨j, hj⟩ | hj
    · exact h.own j b hj
    · exact .inr (Nat.le_trans h.size hj)
  · intro i c hc
    rcases h.conc i c hc with h1 | h1 | ⟨v, rfl, h1⟩
    · exact k.conc i c h1
    · rcases k.conc i _ h1 with h2 | h2 | ⟨v, h2, _⟩
      · exact .inr (.inl h2)
      · exact .inr (.inl h2)
      · cases h2
    · rcases k.conc i _ h1 with h2 | h2 | ⟨v, h2, _⟩
      · exact .inr (.inr ⟨_, rfl, h2⟩)
      · exact .inr (.inl h2)
      · cases h2
theorem Ext.fix {X : Nat → Prop} {ρ ρ' : Rho} {w w' : World} (h : Ext ρ w ρ' w') (b : Nat) (hb : Fix X ρ w b) : w'.heap[b]? = w.heap[b]? ∧ Fix X ρ' w' b := by
  obtain ⟨h1, h2, h3⟩ := hb
  refine ⟨h.keep b h1 h3, Nat.lt_of_lt_of_le h1 h.size, h2, fun i hi => ?_⟩
  rcases h.own i b hi with ⟨j, hj⟩ | hj
  · exact h3 j hj
  · omega
theorem Fix.brw {X : Nat → Prop} {ρ : Rho} {w : World} {b : Nat} (h : Fix X ρ w b) : Brw ρ w b := ⟨h.1, h.2.2⟩
theorem Ext.brw {ρ ρ' : Rho} {w w' : World} (h : Ext ρ w ρ' w') (b : Nat) (hb : Brw ρ w b) : w'.heap[b]? = w.heap[b]? ∧ Brw ρ' w' b := by
  obtain ⟨h1, h3⟩ := hb
  refine ⟨h.keep b h1 h3, Nat.lt_of_lt_of_le h1 h.size, fun i hi => ?_⟩
  rcases h.own i b hi with ⟨j, hj⟩ | hj
  · exact h3 j hj
  · omega
section
variable {X : Nat → Prop} {ρ ρ' : Rho} {w w' : World}
theorem Rep.ext {t : Ty} {x : t.T} {cs : List Value} (h : Rep w (Fix X ρ w) t x cs) (e : Ext ρ w ρ' w') : Rep w' (Fix X ρ' w') t x cs := Rep.move (fun b hb => e.fix b hb) h
theorem LeafOk.ext {x : Leaf} {v : Value} (h : LeafOk X ρ w x v) (e : Ext ρ w ρ' w') : LeafOk X ρ' w' x v := by
  cases x with
  | list r l => exact Rep.ext (X := X) (ρ := ρ) h e
  | bor r l => exact Rep.move (fun b hb => e.brw b hb) h
  | rp t y =>
    obtain ⟨g, o, cs, h1, h2, h3, h4⟩ := h
    exact ⟨g, o, cs, h1, (e.brw g h2).2, h3.move (e.brw g h2).1, Rep.move (fun b hb => e.brw b hb) h4⟩
  | own n =>
    refine ⟨h.1, ?_⟩
    have h := h.2
    cases hn : ρ n with
    | none => rw [hn] at h; exact h.elim
    | some c =>
      rw [hn] at h
      rcases e.conc n c hn with h1 | h1 | ⟨u, rfl, h1⟩
      · rw [h1]; cases c <;> exact h
      · rw [h1]; trivial
      · rw [h1]; exact h
  | ptr b off =>
    refine ⟨h.1, ?_⟩
    have h := h.2
    cases hn : ρ b with
    | none => rw [hn] at h; exact h.elim
    | some c =>
      rw [hn] at h
      rcases e.conc b c hn with h1 | h1 | ⟨u, rfl, h1⟩
      · rw [h1]; cases c <;> exact h
      · rw [h1]; trivial
      · exact h.elim
  | _ => exact h
theorem LeavesOk.ext : ∀ {xs : List Leaf} {vs : List Value}, LeavesOk X ρ w xs vs → Ext ρ w ρ' w' → LeavesOk X ρ' w' xs vs
  | [], [], _, _ => trivial
  | _ :: _, _ :: _, h, e => ⟨h.1.ext e, LeavesOk.ext h.2 e⟩
  | [], _ :: _, h, _ => h.elim
  | _ :: _, [], h, _ => h.elim
theorem CompsOk.ext : ∀ {xs : List (Bool × List Leaf)} {vs : List Value}, CompsOk X ρ w xs vs → Ext ρ w ρ' w' → CompsOk X ρ' w' xs vs
  | [], [], _, _ => trivial
  | x :: _, _ :: _, h, e => by
    refine ⟨?_, CompsOk.ext h.2 e⟩
    have h1 := h.1
    unfold CompOk at h1 ⊢
    split
    · rename_i hx
      rw [if_pos hx] at h1
      obtain ⟨cs, rfl, h1⟩ := h1
      exact ⟨cs, rfl, h1.ext e⟩
    · rename_i hx
      rw [if_neg hx] at h1
      exact h1.ext e
  | [], _ :: _, h, _ => h.elim
  | _ :: _, [], h, _ => h.elim
theorem AvOk.ext : ∀ {x : AV} {v : Value}, AvOk X ρ w x v → Ext ρ w ρ' w' → AvOk X ρ' w' x v
  | .unk, _, _, _ => trivial
  | .undef, _, h, _ => h
  | .one _, _, h, e => LeafOk.ext h e
  | .agg _, _, h, e => by obtain ⟨cs, rfl, h⟩ := h; exact ⟨cs, rfl, h.ext e⟩
  | .tup _, _, h, e => by obtain ⟨cs, rfl, h⟩ := h; exact ⟨cs, rfl, h.ext e⟩
  | .eptr _, _, h, e => by
    obtain ⟨g, o, cs, rfl, hg, hc, h⟩ := h
    exact ⟨g, o, cs, rfl, (e.brw g hg).2, hc.move (e.brw g hg).1, h.ext e⟩
  | .aptr n i z off, v, h, e => by
    have h : AptrOk (ρ n) i z off v := h
    show AptrOk (ρ' n) i z off v
    cases hn : ρ n with
    | none => rw [hn] at h; exact h.elim
    | some c =>
      rw [hn] at h
      rcases e.conc n c hn with h1 | h1 | ⟨u, rfl, h1⟩
      · rw [h1]; exact h
      · rw [h1]; trivial
      · rw [h1]; trivial
  | .tl n i z, v, h, e => by
    have h : TlOk (ρ n) i z v := h
    show TlOk (ρ' n) i z v
    cases hn : ρ n with
    | none => rw [hn] at h; exact h.elim
    | some c =>
      rw [hn] at h
      rcases e.conc n c hn with h1 | h1 | ⟨u, rfl, h1⟩
      · rw [h1]; exact h
      · rw [h1]; trivial
      · rw [h1]; trivial
  | .full _ _, _, h, e => ⟨h.1, Rep.move (fun b hb => e.brw b hb) h.2⟩
  | .fn _ _, _, h, e => by obtain ⟨cs, rfl, h⟩ := h; exact ⟨cs, rfl, h.ext e⟩
  | .gd _ _ _, _, h, _ => h.elim
theorem RowOk.ext {z : Bool} {e : TypeId} {r : Ty} {v : Value} {l : List r.T} (h : RowOk w (Fix X ρ w) z e r v l) (x : Ext ρ w ρ' w') (hb : ∀ b, ownB v = some b → w'.heap[b]? = w.heap[b]?) : RowOk w' (Fix X ρ' w') z e r v l := by
  rcases h.cases with ⟨he, h⟩ | ⟨he, rfl, g, es, clk, hr, rfl, hg, hk⟩
  · rcases h with h | ⟨g, cap, cs, fr, rfl, hg, hrest⟩
    · exact RowS.ok (.inl h) he
    · refine RowS.ok (.inr ⟨g, cap, cs, fr, rfl, (hb g rfl).trans hg, ?_⟩) he
      obtain ⟨h1, h2, h3, h5, h6⟩ := hrest
      exact ⟨h1, h2, h3, h5, fun j y hj => (h6 j y hj).ext x⟩
  · exact RowM.ok ⟨g, es, clk, hr, rfl, (hb g rfl).trans hg, hk⟩ he
/-- A block's slot whose blocks no one has touched. -/
theorem EntOk.ext {e : Ent} {i : Nat} (h : EntOk X ρ w e (ρ i)) (x : Ext ρ w ρ' w') (hc : ρ' i = ρ i) (hb : ∀ b, owns (ρ i) b → w'.heap[b]? = w.heap[b]?) : EntOk X ρ' w' e (ρ' i) := by
  rw [hc]
  cases e with
  | free => trivial
  | box t xs =>
    obtain ⟨g, cs, fr, h0, h1, h2, h3⟩ := h
    exact ⟨g, cs, fr, h0, (hb g (by rw [h0]; rfl)).trans h1, h2, h3.ext x⟩
  | arr z e r l =>
    obtain ⟨v, h0, h1⟩ := h
    exact ⟨v, h0, h1.ext x (fun b hb' => hb b (by rw [h0]; exact hb'))⟩
  | frz r l =>
    obtain ⟨v, h0, h1⟩ := h
    exact ⟨v, h0, h1.ext x⟩
end
end Go.Proofs.YtcnkbllbpimaiaaGreatDoorE

namespace Go.Proofs.YtcnkbllbpimaiaaGreatDoorE
open Go Go.RowKit
set_option linter.unusedVariables false

theorem findG_some : ∀ {gs : List (Nat × Nat × Bool × AV)} {i : Nat} {v : AV}, findG gs i = some v → ∃ t b x, v = .gd t b x ∧ (i, t, b, x) ∈ gs
  | [], _, _, h => by cases h
  | (j, t, b, x) :: r, i, v, h => by
    unfold findG at h
    cases hji : Nat.beq j i with
    | true =>
      rw [hji] at h
      obtain rfl := Nat.eq_of_beq_eq_true hji
      cases h
      exact ⟨t, b, x, rfl, List.mem_cons_self⟩
    | false =>
      rw [hji] at h
      obtain ⟨t', b', x', h1, h2⟩ := findG_some h
      exact ⟨t', b', x', h1, List.mem_cons_of_mem _ h2⟩
theorem mem_dropG : ∀ {gs : List (Nat × Nat × Bool × AV)} {d i t : Nat} {b : Bool} {x : AV}, (i, t, b, x) ∈ dropG gs d → (i, t, b, x) ∈ gs ∧ i ≠ d ∧ t ≠ d
  | [], _, _, _, _, _, h => by cases h
  | (j, t', b', x') :: r, d, i, t, b, x, h => by
    unfold dropG at h
    cases hj : (Nat.beq j d || Nat.beq t' d) with
    | true =>
      rw [hj] at h
      obtain ⟨h1, h2⟩ := mem_dropG h
      exact ⟨List.mem_cons_of_mem _ h1, h2⟩
    | false =>
      rw [hj] at h
      rcases List.mem_cons.1 h with h | h
      · cases h
        simp only [Bool.or_eq_false_iff] at hj
        exact ⟨List.mem_cons_self, Nat.ne_of_beq_eq_false hj.1, Nat.ne_of_beq_eq_false hj.2⟩
      · obtain ⟨h1, h2⟩ := mem_dropG h
        exact ⟨List.mem_cons_of_mem _ h1, h2⟩
theorem mem_freeG : ∀ {gs : List (Nat × Nat × Bool × AV)} {d i t : Nat} {b : Bool} {x : AV}, (i, t, b, x) ∈ freeG gs d → (i, t, b, x) ∈ gs
  | [], _, _, _, _, _, h => by cases h
  | (j, t', b', x') :: r, d, i, t, b, x, h => by
    unfold freeG at h
    cases hj : Nat.beq j d with
    | true => rw [hj] at h; exact List.mem_cons_of_mem _ (mem_freeG h)
    | false =>
      rw [hj] at h
      rcases List.mem_cons.1 h with h | h
      · cases h; exact List.mem_cons_self
      · exact List.mem_cons_of_mem _ (mem_freeG h)
def actPut (a : Act) (d : Nat) (v : Value) : Act := { a with tmps := a.tmps.setIfInBounds d v }
theorem tmOf_put (a : Act) (d : Nat) (v : Value) (hd : d < a.tmps.size) (i : Nat) : tmOf (actPut a d v) i = if i = d then v else tmOf a i := by
  unfold tmOf actPut
  by_cases h : i = d
  · subst h
    simp [Array.getD, hd]
  · rw [if_neg h]
    simp only [Array.getD_eq_getD_getElem?, Array.getElem?_setIfInBounds]
    rw [if_neg (fun e => h e.symm)]
section
variable {X : Nat → Prop} {ρ ρ' : Rho} {st : St} {a : Act} {w w' : World}
/-- What a slot reads. -/
theorem Rel.tmp (h : Rel X ρ st a w) (i : Nat) : AvOk X ρ w (st.tmp i) (tmOf a i) ∨ ∃ t b x, st.tmp i = .gd t b x ∧ GdOk X ρ w (tmOf a) t b x (tmOf a i) := by
  unfold St.tmp
  cases hf : findG st.gs i with
  | none => exact .inl (h.tmps i)
  | some v =>
    obtain ⟨t, b, x, rfl, hm⟩ := findG_some hf
    exact .inr ⟨t, b, x, rfl, h.gs i t b x hm⟩
theorem Rel.setT (h : Rel X ρ st a w) {d : Nat} {v : Value} {av : AV} (hd : d < st.n) (hv : AvOk X ρ w av v) : Rel X ρ (st.setT d av) (actPut a d v) w := by
  have hs : d < a.tmps.size := by rw [h.size]; exact hd
  refine ⟨h.defers, by simpa [actPut, St.setT] using h.size, h.sep, h.lt, h.ents, ?_, ?_, h.fresh, h.xlt, h.gl⟩
  · intro i
    rw [tmOf_put a d v hs]
    show AvOk X ρ w (getL .unk (setL .unk st.tmps d av) i) _
    rw [getL_setL]
    by_cases hi : d = i
    · rw [if_pos hi, if_pos hi.symm]; exact hv
    · rw [if_neg hi, if_neg (fun e => hi e.symm)]; exact h.tmps i
  · intro i t b x hm
    obtain ⟨hm, h1, h2⟩ := mem_dropG hm
    have := h.gs i t b x hm
    unfold GdOk at this ⊢
    rw [tmOf_put a d v hs, tmOf_put a d v hs, if_neg h1, if_neg h2]
    exact this
theorem Rel.setG (h : Rel X ρ st a w) {d t : Nat} {b : Bool} {v : Value} {av : AV} (hd : d < st.n) (hv : GdOk X ρ w (tmOf a) t b av v) : Rel X ρ (st.setG d t b av) (actPut a d v) w := by
  have hs : d < a.tmps.size := by rw [h.size]; exact hd
  refine ⟨h.defers, by simpa [actPut, St.setG] using h.size, h.sep, h.lt, h.ents, ?_, ?_, h.fresh, h.xlt, h.gl⟩
  · intro i
    rw [tmOf_put a d v hs]
    show AvOk X ρ w (getL .unk (setL .unk st.tmps d .unk) i) _
    rw [getL_setL]
    by_cases hi : d = i
    · rw [if_pos hi]; trivial
    · rw [if_neg hi, if_neg (fun e => hi e.symm)]; exact h.tmps i
  · have old : ∀ i t b x, (i, t, b, x) ∈ dropG st.gs d → GdOk X ρ w (tmOf (actPut a d v)) t b x (tmOf (actPut a d v) i) := by
      intro i t b x hm
      obtain ⟨hm, h1, h2⟩ := mem_dropG hm
      have := h.gs i t b x hm
      unfold GdOk at this ⊢
      rw [tmOf_put a d v hs, tmOf_put a d v hs, if_neg h1, if_neg h2]
      exact this
    intro i t' b' x hm
    unfold St.setG at hm
    dsimp only at hm
    cases hdt : Nat.beq d t with
    | true => rw [hdt] at hm; exact old i t' b' x hm
    | false =>
      rw [hdt] at hm
      rcases List.mem_cons.1 hm with hm | hm
      · cases hm
        unfold GdOk at hv ⊢
        rw [tmOf_put a d v hs, tmOf_put a d v hs, if_pos rfl, if_neg (fun e => (Nat.ne_of_beq_eq_false hdt) e.symm)]
        exact hv
      · exact old i t' b' x hm
theorem Rel.refT (h : Rel X ρ st a w) {d : Nat} {av : AV} (hv : AvOk X ρ w av (tmOf a d)) : Rel X ρ (st.refT d av) a w := by
  refine ⟨h.defers, h.size, h.sep, h.lt, h.ents, ?_, fun i t b x hm => h.gs i t b x (mem_freeG hm), h.fresh, h.xlt, h.gl⟩
  intro i
  show AvOk X ρ w (getL .unk (setL .unk st.tmps d av) i) _
  rw [getL_setL]
  by_cases hi : d = i
  · subst hi; rw [if_pos rfl]; exact hv
  · rw [if_neg hi]; exact h.tmps i
theorem Rel.clear (h : Rel X ρ st a w) : Rel X ρ { st with gs := [] } a w :=
  ⟨h.defers, h.size, h.sep, h.lt, h.ents, h.tmps, (fun _ _ _ _ hm => nomatch hm), h.fresh, h.xlt, h.gl⟩
theorem Rel.put (h : Rel X ρ st a w) {d : Option Tmp} {v : Value} {av : AV} (hd : ∀ i, d = some i → i < st.n) (hv : AvOk X ρ w av v) : Rel X ρ (st.put d av) (a.put d v) w := by
  cases d with
  | none => exact h
  | some i => exact h.setT (hd i rfl) hv
theorem Rel.putG (h : Rel X ρ st a w) {d : Option Tmp} {t : Nat} {b : Bool} {v : Value} {av : AV} (hd : ∀ i, d = some i → i < st.n) (hv : GdOk X ρ w (tmOf a) t b av v) : Rel X ρ (st.putG d t b av) (a.put d v) w := by
  cases d with
  | none => exact h
  | some i => exact h.setG (hd i rfl) hv
/-! #### memory -/
def upd (ρ : Rho) (i : Nat) (c : Option Conc) : Rho := fun j => if j = i then c else ρ j
theorem upd_same (ρ : Rho) (i : Nat) (c : Option Conc) : upd ρ i c i = c := by simp [upd]
theorem upd_other (ρ : Rho) {i j : Nat} (c : Option Conc) (h : j ≠ i) : upd ρ i c j = ρ j := by simp [upd, h]
theorem ent_setB (st : St) (i : Nat) (e : Ent) (j : Nat) : (st.setB i e).ent j = if i = j then e else st.ent j := getL_setL _ _ _ _ _
theorem ent_newB (st : St) (e : Ent) (j : Nat) : (st.newB e).ent j = if st.nb = j then e else st.ent j := getL_setL _ _ _ _ _
/-- The world goes on; one slot stands for something else; all other blocks of the call's own are as they were. -/
theorem Rel.step (h : Rel X ρ st a w) (i : Nat) (e : Ent) (c : Option Conc) (x : Ext ρ w (upd ρ i c) w')
    (hX : ∀ b, owns c b → b < w'.heap.size ∧ ¬ X b) (hown : ∀ j b, owns c b → owns (ρ j) b → j = i)
    (hkeep : ∀ j b, j ≠ i → owns (ρ j) b → w'.heap[b]? = w.heap[b]?) (he : EntOk X (upd ρ i c) w' e c)
    {st' : St} (hn : st'.n = st.n) (ht : st'.tmps = st.tmps) (hg : st'.gs = st.gs) (hent : ∀ j, st'.ent j = if i = j then e else st.ent j)
    (hfresh : Free (upd ρ i c) st') : Rel X (upd ρ i c) st' a w' := by
  refine ⟨h.defers, by rw [hn]; exact h.size, ?_, ?_, ?_, ?_, ?_, hfresh, fun b hb => Nat.lt_of_lt_of_le (h.xlt b hb) x.size, h.gl.ext x⟩
  · intro j k b hj hk
    by_cases hji : j = i
    · subst hji
      rw [upd_same] at hj
      by_cases hki : k = j
      · exact hki.symm
      · rw [upd_other ρ c hki] at hk; exact (hown k b hj hk).symm
    · rw [upd_other ρ c hji] at hj
      by_cases hki : k = i
      · subst hki; rw [upd_same] at hk; exact hown j b hk hj
      · rw [upd_other ρ c hki] at hk; exact h.sep j k b hj hk
  · intro j b hj
    by_cases hji : j = i
    · subst hji; rw [upd_same] at hj; exact hX b hj
    · rw [upd_other ρ c hji] at hj
      exact ⟨Nat.lt_of_lt_of_le (h.lt j b hj).1 x.size, (h.lt j b hj).2⟩
  · intro j
    rw [hent j]
    by_cases hji : j = i
    · subst hji; rw [if_pos rfl, upd_same]; exact he
    · rw [if_neg (fun e => hji e.symm)]
      exact EntOk.ext (h.ents j) x (upd_other ρ c hji) (fun b hb => hkeep j b hji hb)
  · intro j
    rw [ht]
    exact (h.tmps j).ext x
  · intro j t b y hm
    rw [hg] at hm
    exact (h.gs j t b y hm).imp (fun h => ⟨h.1, h.2.ext x⟩) id
theorem Ext.slot (x : Ext ρ w ρ w') {n : Nat} {c : Conc} (hn : ρ n = none) (hc : ∀ b, owns (some c) b → w.heap.size ≤ b) : Ext ρ w (upd ρ n (some c)) w' := by
  refine ⟨x.os, x.tape, x.output, x.size, x.keep, ?_, ?_⟩
  · intro i b hi
    by_cases hii : i = n
    · subst hii; rw [upd_same] at hi; exact .inr (hc b hi)
    · rw [upd_other ρ _ hii] at hi; exact .inl ⟨i, hi⟩
  · intro i c' hi
    by_cases hii : i = n
    · subst hii; rw [hn] at hi; cases hi
    · rw [upd_other ρ _ hii]; exact .inl hi
/-- A name that is no longer free. -/
theorem Free.upd {st' : St} (h : Free ρ st) {n : Nat} {c : Option Conc} (hn : ρ n ≠ none) (h1 : st'.nb = st.nb) (h2 : st'.lim = st.lim) (h3 : st'.res = st.res) : Free (upd ρ n c) st' := by
  refine ⟨fun j hj => ?_, by rw [h1, h2, h3]; exact h.2⟩
  have hj' : st.fr j := by unfold St.fr at hj ⊢; rw [h1, h2, h3] at hj; exact hj
  by_cases hjn : j = n
  · subst hjn; exact (hn (h.1 j hj')).elim
  · rw [upd_other ρ _ hjn]; exact h.1 j hj'
theorem Free.newB (h : Free ρ st) (hlt : st.nb < st.lim) (e : Ent) (c : Option Conc) : Free (Go.Proofs.YtcnkbllbpimaiaaGreatDoorE.upd ρ st.nb c) (st.newB e) := by
  refine ⟨fun j hj => ?_, fun p hp => (h.2 p hp).imp (fun k => Nat.le_succ_of_le k) id⟩
  have hne : j ≠ st.nb := by
    rcases hj with hj | ⟨p, hp, hj⟩
    · exact fun e => by subst e; exact Nat.lt_irrefl _ hj.1
    · rintro rfl
      rcases h.2 p hp with k | k <;> omega
  rw [upd_other ρ _ hne]
  refine h.1 j ?_
  rcases hj with hj | hj
  · exact .inl ⟨Nat.le_of_succ_le hj.1, hj.2⟩
  · exact .inr hj
theorem run_new {α R : Type} {e : Ent} {k : Nat → M α} {st : St} {K : α → St → Option R} {r : R} (h : (M.new e k).run st K = some r) : st.nb < st.lim ∧ (k st.nb).run (st.newB e) K = some r := by
  replace h : (bif Nat.blt st.nb st.lim then (k st.nb).run (st.newB e) K else none) = some r := h
  cases hb : Nat.blt st.nb st.lim with
  | false => rw [hb] at h; cases h
  | true => rw [hb] at h; exact ⟨(Nat.blt_eq).mp hb, h⟩
/-- A new block (or a slot that stands for a new row). -/
theorem Rel.new (h : Rel X ρ st a w) (hlt : st.nb < st.lim) (e : Ent) (c : Conc) (x : Ext ρ w ρ w') (hc : ∀ b, owns (some c) b → w.heap.size ≤ b ∧ b < w'.heap.size ∧ ¬ X b)
    (hkeep : ∀ j b, owns (ρ j) b → w'.heap[b]? = w.heap[b]?) (he : EntOk X (upd ρ st.nb (some c)) w' e (some c)) :
    Rel X (upd ρ st.nb (some c)) (st.newB e) a w' ∧ Ext ρ w (upd ρ st.nb (some c)) w' := by
  have hnb : ρ st.nb = none := h.fresh.1 _ (.inl ⟨Nat.le_refl _, hlt⟩)
  have x' : Ext ρ w (upd ρ st.nb (some c)) w' := by
    refine ⟨x.os, x.tape, x.output, x.size, x.keep, ?_, ?_⟩
    · intro i b hi
      by_cases hii : i = st.nb
      · subst hii; rw [upd_same] at hi; exact .inr (hc b hi).1
      · rw [upd_other ρ _ hii] at hi; exact .inl ⟨i, hi⟩
    · intro i c' hi
      by_cases hii : i = st.nb
      · subst hii; rw [hnb] at hi; cases hi
      · rw [upd_other ρ _ hii]; exact .inl hi
  refine ⟨h.step st.nb e (some c) x' (fun b hb => (hc b hb).2) ?_ (fun j b _ hj => hkeep j b hj) he rfl rfl rfl (fun j => ent_newB st e j) (h.fresh.newB hlt e _), x'⟩
  intro j b hb hj
  have := (h.lt j b hj).1
  have := (hc b hb).1
  omega
/-- A row of the call's own is not written any more. -/
theorem Rel.freeze (h : Rel X ρ st a w) {n : Nat} {z : Bool} {e : TypeId} {r : Ty} {l : List r.T} (he : st.ent n = .arr z e r l) (hm : isMap e = false) :
    ∃ v, ρ n = some (.row v) ∧ Rel X (upd ρ n (some (.frz v))) (st.setB n (.frz r l)) a w ∧ Ext ρ w (upd ρ n (some (.frz v))) w ∧ Rep w (Fix X (upd ρ n (some (.frz v))) w) (.sl r) l [v] := by
  have h0 := h.ents n
  rw [he] at h0
  obtain ⟨v, hv, hr⟩ := h0
  have x : Ext ρ w (upd ρ n (some (.frz v))) w := by
    refine ⟨rfl, rfl, rfl, Nat.le_refl _, fun _ _ _ => rfl, ?_, ?_⟩
    · intro i b hi
      by_cases hin : i = n
      · subst hin; rw [upd_same] at hi; exact hi.elim
      · rw [upd_other ρ _ hin] at hi; exact .inl ⟨i, hi⟩
    · intro i c hi
      by_cases hin : i = n
      · subst hin
        rw [hv] at hi
        cases hi
        exact .inr (.inr ⟨v, rfl, upd_same _ _ _⟩)
      · rw [upd_other ρ _ hin]; exact .inl hi
  have hrep : Rep w (Fix X (upd ρ n (some (.frz v))) w) (.sl r) l [v] := by
    rcases hr.slice hm with ⟨rfl, rfl⟩ | ⟨g, cap, cs, fr, rfl, hg, hu, _, hl, hsz, hx⟩
    · exact ⟨none, 0, rfl, Nat.le_refl _, .inl rfl⟩
    · refine ⟨_, cap, rfl, hl, .inr ⟨g, 0, rfl, ?_, ?_⟩⟩
      · have hown : owns (ρ n) g := by rw [hv]; rfl
        refine ⟨(h.lt n g hown).1, (h.lt n g hown).2, fun i hi => ?_⟩
        by_cases hin : i = n
        · subst hin; rw [upd_same] at hi; exact hi
        · rw [upd_other ρ _ hin] at hi; exact hin (h.sep i n g hi hown)
      · intro j y hj
        refine ⟨_, ?_, (hx j y hj).ext x⟩
        intro i u hu'
        rw [cell_of_row w g (0 + j * r.sz + i) cs e fr hg]
        rw [List.getElem?_take] at hu'
        split at hu'
        · rw [List.getElem?_drop] at hu'
          rw [Nat.zero_add]
          simpa using hu'
        · cases hu'
  refine ⟨v, hv, h.step n (.frz r l) (some (.frz v)) x (fun b hb => hb.elim) (fun j b hb => hb.elim) (fun _ _ _ _ => rfl) ⟨v, rfl, hrep⟩ rfl rfl rfl (fun j => ent_setB st n _ j) (h.fresh.upd (by rw [hv]; exact nofun) rfl rfl rfl), x, hrep⟩
/-- A slot is given up. -/
theorem Rel.drop (h : Rel X ρ st a w) (n : Nat) {c : Conc} (hc : ρ n = some c) : Rel X (upd ρ n (some .dead)) (st.setB n .free) a w ∧ Ext ρ w (upd ρ n (some .dead)) w := by
  have x : Ext ρ w (upd ρ n (some .dead)) w := by
    refine ⟨rfl, rfl, rfl, Nat.le_refl _, fun _ _ _ => rfl, ?_, ?_⟩
    · intro i b hi
      by_cases hin : i = n
      · subst hin; rw [upd_same] at hi; exact hi.elim
      · rw [upd_other ρ _ hin] at hi; exact .inl ⟨i, hi⟩
    · intro i c hi
      by_cases hin : i = n
      · subst hin; exact .inr (.inl (upd_same _ _ _))
      · rw [upd_other ρ _ hin]; exact .inl hi
  refine ⟨h.step n .free (some .dead) x (fun b hb => hb.elim) (fun j b hb => hb.elim) (fun _ _ _ _ => rfl) trivial rfl rfl rfl (fun j => ent_setB st n _ j) (h.fresh.upd (by rw [hc]; exact nofun) rfl rfl rfl), x⟩
end
end Go.Proofs.YtcnkbllbpimaiaaGreatDoorE

namespace Go.Proofs.YtcnkbllbpimaiaaGreatDoorE
open Go Go.RowKit
set_option linter.unusedVariables false

theorem M.run_bind {α β R : Type} : ∀ (p : M α) (f : α → M β) (st : St) (K : β → St → Option R), (p.bind f).run st K = p.run st fun x st' => (f x).run st' K
  | .ret _, _, _, _ => rfl
  | .get i k, f, st, K => M.run_bind (k (st.tmp i)) f st K
  | .getb i k, f, st, K => M.run_bind (k (st.ent i)) f st K
  | .setb i e k, f, st, K => M.run_bind k f (st.setB i e) K
  | .new e k, f, st, K => by
    show (bif Nat.blt st.nb st.lim then ((k st.nb).bind f).run (st.newB e) K else none) = bif Nat.blt st.nb st.lim then (k st.nb).run (st.newB e) (fun x st' => (f x).run st' K) else none
    rw [M.run_bind (k st.nb) f (st.newB e) K]
  | .opt _ o k, f, st, K => by
    show (o.bind fun b => ((k b).bind f).run st K) = o.bind fun b => (k b).run st fun x st' => (f x).run st' K
    congr 1; funext b; exact M.run_bind (k b) f st K
  | .fail, _, _, _ => rfl
theorem M.run_still {α R : Type} : ∀ (p : M α) (st : St) (v : α), p.still st = some v → ∀ K : α → St → Option R, p.run st K = K v st
  | .ret _, _, _, h, _ => by cases h; rfl
  | .get i k, st, v, h, K => M.run_still (k (st.tmp i)) st v h K
  | .getb i k, st, v, h, K => M.run_still (k (st.ent i)) st v h K
  | .setb _ _ _, _, _, h, _ => nomatch h
  | .new _ _, _, _, h, _ => nomatch h
  | .opt _ _ _, _, _, h, _ => nomatch h
  | .fail, _, _, h, _ => nomatch h

/-- The guard under which an operation is carried out holds. -/
def Held (a : Act) (g : Option (Nat × Bool)) : Prop := ∀ t b, g = some (t, b) → tmOf a t = .bool b
section
variable {X : Nat → Prop} {ρ : Rho} {st : St} {a : Act} {w : World} {g : Option (Nat × Bool)} {R : Type} {r : R}
theorem unw_sound {K : AV → St → Option R} (h : Rel X ρ st a w) (hg : Held a g) {v0 : AV} {v : Value}
    (hv : AvOk X ρ w v0 v ∨ ∃ t b x, v0 = .gd t b x ∧ GdOk X ρ w (tmOf a) t b x v) (hr : (unw g v0).run st K = some r) : ∃ av, K av st = some r ∧ AvOk X ρ w av v := by
  rcases hv with hv | ⟨t, b, x, rfl, hv⟩
  · cases v0 <;> first | exact ⟨_, hr, hv⟩ | exact hv.elim
  · have holds : tmOf a t = .bool b → AvOk X ρ w x v := fun ht => by
      rcases hv with hv | hv
      · exact hv.2
      · exact absurd ht hv.1
    replace hr : (unw1 g x t b (st.tmp t)).run st K = some r := hr
    unfold unw1 at hr
    split at hr
    · rename_i b' hb'
      have h1 := h.tmp t
      rw [hb'] at h1
      have h1 : tmOf a t = .bool b' := by
        rcases h1 with h1 | ⟨_, _, _, h1, _⟩
        · exact h1
        · cases h1
      cases hbb : (b' == b) with
      | false => rw [hbb] at hr; cases hr
      | true =>
        rw [hbb] at hr
        have : b' = b := by simpa using hbb
        subst this
        exact ⟨x, hr, holds h1⟩
    · split at hr
      · cases hr
      · rename_i t' w'
        have hg' := hg t' w' rfl
        cases hc : (Nat.beq t t' && (b == w')) with
        | true =>
          rw [hc] at hr
          obtain ⟨hc1, hc2⟩ := (Bool.and_eq_true _ _).mp hc
          obtain rfl := Nat.eq_of_beq_eq_true hc1
          obtain rfl := eq_of_beq hc2
          exact ⟨x, hr, holds hg'⟩
        | false =>
          rw [hc] at hr
          replace hr : (unw2 x t b (st.tmp t')).run st K = some r := hr
          unfold unw2 at hr
          split at hr
          · rename_i t2 w2 x2 h2
            have h1 := h.tmp t'
            rw [h2] at h1
            rcases h1 with h1 | ⟨t3, b3, x3, h3, h1⟩
            · exact h1.elim
            · cases h3
              cases hc2 : (Nat.beq t t2 && (b == w2)) with
              | false => rw [hc2] at hr; cases hr
              | true =>
                rw [hc2] at hr
                obtain ⟨hc3, hc4⟩ := (Bool.and_eq_true _ _).mp hc2
                obtain rfl := Nat.eq_of_beq_eq_true hc3
                obtain rfl := eq_of_beq hc4
                refine ⟨x, hr, holds ?_⟩
                rcases h1 with h1 | h1
                · exact h1.1
                · rw [hg'] at h1; cases h1.2
          · cases hr
theorem ofVal_ok (v : Value) : AvOk X ρ w (ofVal v) v := by
  unfold ofVal
  split <;> first | rfl | trivial | exact ⟨#[], rfl, trivial⟩
theorem opd_sound {K : AV → St → Option R} (h : Rel X ρ st a w) (hg : Held a g) {x : Operand} (hr : (opd g x).run st K = some r) : ∃ av, K av st = some r ∧ AvOk X ρ w av (a.eval x) := by
  cases x with
  | tmp t => exact unw_sound h hg (h.tmp t) hr
  | const v => exact ⟨_, hr, ofVal_ok v⟩
  | func f => exact ⟨_, hr, ⟨#[], rfl, trivial⟩⟩
  | global _ => cases hr
def AvsOk (X : Nat → Prop) (ρ : Rho) (w : World) : List AV → List Value → Prop
  | [], [] => True
  | x :: xs, v :: vs => AvOk X ρ w x v ∧ AvsOk X ρ w xs vs
  | _, _ => False
theorem AvsOk.ext {ρ' : Rho} {w' : World} : ∀ {xs : List AV} {vs : List Value}, AvsOk X ρ w xs vs → Ext ρ w ρ' w' → AvsOk X ρ' w' xs vs
  | [], [], _, _ => trivial
  | _ :: _, _ :: _, h, e => ⟨h.1.ext e, AvsOk.ext h.2 e⟩
  | [], _ :: _, h, _ => h.elim
  | _ :: _, [], h, _ => h.elim
theorem opds_sound (h : Rel X ρ st a w) (hg : Held a g) : ∀ {xs : List Operand} {K : List AV → St → Option R}, (M.mapL (opd g) xs).run st K = some r → ∃ avs, K avs st = some r ∧ AvsOk X ρ w avs (xs.map a.eval)
  | [], K, hr => ⟨[], hr, trivial⟩
  | x :: xs, K, hr => by
    unfold M.mapL at hr
    rw [M.run_bind] at hr
    obtain ⟨av, hr, h1⟩ := opd_sound h hg hr
    rw [M.run_bind] at hr
    obtain ⟨avs, hr, h2⟩ := opds_sound h hg hr
    exact ⟨av :: avs, hr, h1, h2⟩
end

/-! ### what is to be shown of an operation -/
def Good {R : Type} (P : Program) (o : Oper) (a : Act) (w : World) (X : Nat → Prop) (ρ : Rho) (st : St) (K : AV → St → Option R) (r : R) : Prop :=
  ∀ next Q, (∀ av v ρ' st' w', K av st' = some r → AvOk X ρ' w' av v → Rel X ρ' st' a w' → Ext ρ w ρ' w' → st'.n = st.n → next (a.put o.dst v) w') → o.wp P a w next Q
section
variable {P : Program} {o : Oper} {X : Nat → Prop} {ρ ρ' : Rho} {st st' : St} {a : Act} {w w' : World} {g : Option (Nat × Bool)} {R : Type} {r : R} {K : AV → St → Option R}
theorem good_value {v : Value} {av : AV} (hrun : (execOp a.eval o).run P w = .ok (.value v) w') (hk : K av st' = some r) (hv : AvOk X ρ' w' av v) (h : Rel X ρ' st' a w') (x : Ext ρ w ρ' w') (hn : st'.n = st.n) : Good P o a w X ρ st K r := by
  intro next Q hq
  unfold Oper.wp
  rw [hrun]
  exact hq av v ρ' st' w' hk hv h x hn
theorem good_same {v : Value} {av : AV} (hrun : (execOp a.eval o).run P w = .ok (.value v) w) (hk : K av st = some r) (hv : AvOk X ρ w av v) (h : Rel X ρ st a w) : Good P o a w X ρ st K r :=
  good_value hrun hk hv h (Ext.refl _ _) rfl
theorem good_move (h : Rel X ρ st a w) (hg : Held a g) {x : Operand} (ho : o.op = .move x ∨ o.op = .assign x) (hr : (opd g x).run st K = some r) : Good P o a w X ρ st K r := by
  obtain ⟨av, hk, hv⟩ := opd_sound h hg hr
  refine good_same ?_ hk hv h
  rcases ho with ho | ho <;> (unfold execOp; rw [ho]; rfl)
theorem good_pick (h : Rel X ρ st a w) (hg : Held a g) {c x y : Operand} (ho : o.op = .pick c x y) (hr : (pick g c x y).run st K = some r) : Good P o a w X ρ st K r := by
  have hrun : ∀ cb, a.eval c = .bool cb → (execOp a.eval o).run P w = .ok (.value (if cb then a.eval x else a.eval y)) w := by
    intro cb hcb
    unfold execOp
    rw [ho]
    simp [hcb, asBool]
  unfold pick at hr
  split at hr
  · rename_i tc
    replace hr : ((unw g (st.tmp tc)).bind (pick1 g tc x y)).run st K = some r := hr
    rw [M.run_bind] at hr
    obtain ⟨v, hr2, hv⟩ := unw_sound h hg (h.tmp tc) hr
    clear hr
    rename (pick1 g tc x y v).run st K = some r => hr
    unfold pick1 at hr
    split at hr
    · obtain ⟨av, hk, hv'⟩ := opd_sound h hg hr
      exact good_same (hrun true hv) hk hv' h
    · obtain ⟨av, hk, hv'⟩ := opd_sound h hg hr
      exact good_same (hrun false hv) hk hv' h
    · rename_i cb
      have hcb : tmOf a tc = .bool cb := hv
      split at hr
      · rename_i ta
        replace hr : (pickL tc cb (st.tmp ta)).run st K = some r := hr
        have ht := h.tmp ta
        unfold pickL at hr
        split at hr
        · rename_i t x heq
          rw [heq] at ht
          cases htc : Nat.beq t tc with
          | false => rw [htc] at hr; cases hr
          | true =>
            rw [htc] at hr
            obtain rfl := Nat.eq_of_beq_eq_true htc
            refine good_same (hrun cb hcb) hr ?_ h
            show (if cb then tmOf a ta else Value.bool false) = .bool (cb && x)
            cases cb with
            | false => rfl
            | true =>
              rcases ht with ht | ⟨t', b', x', h1, ht⟩
              · exact ht.elim
              · cases h1
                rcases ht with ht | ht
                · exact ht.2
                · exact absurd hcb ht.1
        · rename_i x heq
          rw [heq] at ht
          refine good_same (hrun cb hcb) hr ?_ h
          show (if cb then tmOf a ta else Value.bool false) = .bool (cb && x)
          have ht : tmOf a ta = .bool x := by
            rcases ht with ht | ⟨_, _, _, h1, _⟩
            · exact ht
            · cases h1
          rw [ht]
          cases cb <;> rfl
        · cases hr
      · rename_i tb
        replace hr : (pickR tc cb (st.tmp tb)).run st K = some r := hr
        have ht := h.tmp tb
        unfold pickR at hr
        split at hr
        · rename_i t x heq
          rw [heq] at ht
          cases htc : Nat.beq t tc with
          | false => rw [htc] at hr; cases hr
          | true =>
            rw [htc] at hr
            obtain rfl := Nat.eq_of_beq_eq_true htc
            refine good_same (hrun cb hcb) hr ?_ h
            show (if cb then Value.bool true else tmOf a tb) = .bool (cb || x)
            cases cb with
            | true => rfl
            | false =>
              rcases ht with ht | ⟨t', b', x', h1, ht⟩
              · exact ht.elim
              · cases h1
                rcases ht with ht | ht
                · exact ht.2
                · exact absurd hcb ht.1
        · rename_i x heq
          rw [heq] at ht
          refine good_same (hrun cb hcb) hr ?_ h
          show (if cb then Value.bool true else tmOf a tb) = .bool (cb || x)
          have ht : tmOf a tb = .bool x := by
            rcases ht with ht | ⟨_, _, _, h1, _⟩
            · exact ht
            · cases h1
          rw [ht]
          cases cb <;> rfl
        · cases hr
      · cases hr
    · cases hr
  · cases hr
/-! #### two operands -/
theorem ba_toList (s : Str) : (ba s).toList = s := by simp [ba, ByteArray.toList_eq]
end
end Go.Proofs.YtcnkbllbpimaiaaGreatDoorE

namespace Go.Proofs.YtcnkbllbpimaiaaGreatDoorE
open Go Go.RowKit
set_option linter.unusedVariables false

structure TiFor (P : Program) (t : TypeId) (i : TI) : Prop where
  info : ∃ q, P.info? t = some q ∧ q.size = i.sz ∧ q.bytes = i.bytes ∧ ∃ z, q.zero = some z ∧ z.cells.size = i.sz ∧ ∀ X ρ w, LeavesOk X ρ w i.zero z.cells.toList
  und : ∃ d, P.underlying t = some d ∧ i.agg = (match d with | .struct _ | .array _ _ => true | _ => false) ∧ (i.kind = 1 → d = .int i.ik) ∧ (i.kind = 2 → d = .string) ∧ (i.kind = 3 → d = .slice i.elem) ∧ (i.kind = 5 → d = .bool) ∧
    (i.kind = 4 → ∃ fs, d = .struct fs ∧ ∀ (f o : Nat) (ft : TypeId), i.offs[f]? = some (o, ft) → ∃ fl, fs[f]? = some fl ∧ fl.offset = o ∧ fl.type = ft ∧ ∃ q, P.info? ft = some q ∧ q.size ≠ 0)
  places : i.kind = 4 → ∃ fs places, P.underlying t = some (.struct fs) ∧ fs.toList.mapM (fun f => (P.info? f.type).map fun i => (f.offset, i.size)) = some places ∧
    ∀ (f o : Nat) (ft : TypeId), i.offs[f]? = some (o, ft) → ∃ q, P.info? ft = some q ∧ places[f]? = some (o, q.size)
  pos : 0 < i.sz → 0 < i.bytes
  low : i.kind = 3 → isMap i.elem = false
  arr : i.kind = 7 → ∃ len y, i.offs = [(len, y)] ∧ P.underlying t = some (.array len i.elem)
  map : i.kind = 6 → ∃ k e q, P.underlying t = some (.map k e) ∧ P.underlying k = some (.int .i64) ∧ P.info? e = some q ∧ q.zero = some (.bool false)
  one : i.agg = false → ∀ q z, P.info? t = some q → q.zero = some z → z.cells = #[z]
  eqs : i.eqs = true → P.eqGuardType P.depth t = false ∧ ∀ X ρ w (cs ds : Array Value) (xs ys : List Leaf) (b : Bool), LeavesOk X ρ w xs cs.toList → LeavesOk X ρ w ys ds.toList → eqLeavesT (leafTys i.ty) xs ys = some b → (Op.equal t (.agg cs) (.agg ds)).run P w = .ok b w
def TiOk (P : Program) (ti : Tab TI) : Prop := ∀ t i, ti.get t = some i → TiFor P t i
section
variable {P : Program} {o : Oper} {X : Nat → Prop} {ρ ρ' : Rho} {st st' : St} {a : Act} {w w' : World} {g : Option (Nat × Bool)} {R : Type} {r : R} {K : AV → St → Option R} {C : Ctx}

theorem binInt_sound {op : BinOp} {k k' : IntKind} {x y : Int} {t : TypeId} {K : AV → St → Option R} (hk : (op = .shl ∨ op = .shr) ∨ k = k') (hr : (binInt op k x y).run st K = some r) :
    ∃ av v, K av st = some r ∧ (∀ X ρ w, AvOk X ρ w av v) ∧ ∀ w, (Go.binOp op t (.int k x) (.int k' y)).run P w = .ok v w := by
  have hkk : op ≠ .shl → op ≠ .shr → k = k' := fun h1 h2 => hk.resolve_left (fun h => h.elim h1 h2)
  cases op
  case add => obtain rfl := hkk (by simp) (by simp); exact ⟨_, _, hr, fun _ _ _ => rfl, fun w => by simp [Go.binOp, Op.intArith]⟩
  case sub => obtain rfl := hkk (by simp) (by simp); exact ⟨_, _, hr, fun _ _ _ => rfl, fun w => by simp [Go.binOp, Op.intArith]⟩
  case mul => obtain rfl := hkk (by simp) (by simp); exact ⟨_, _, hr, fun _ _ _ => rfl, fun w => by simp [Go.binOp, Op.intArith]⟩
  case quo =>
    obtain rfl := hkk (by simp) (by simp)
    have hr : ((nz? y).bind fun _ => (retI k (k.wrap (x.tdiv y))).run st K) = some r := hr
    by_cases hy : y = 0
    · simp [nz?, hy] at hr
    · rw [nz?, if_neg hy] at hr
      exact ⟨_, _, hr, fun _ _ _ => rfl, fun w => by simp [Go.binOp, Op.intDiv, hy]⟩
  case rem =>
    obtain rfl := hkk (by simp) (by simp)
    have hr : ((nz? y).bind fun _ => (retI k (x.tmod y)).run st K) = some r := hr
    by_cases hy : y = 0
    · simp [nz?, hy] at hr
    · rw [nz?, if_neg hy] at hr
      exact ⟨_, _, hr, fun _ _ _ => rfl, fun w => by simp [Go.binOp, Op.intDiv, hy]⟩
  case and => obtain rfl := hkk (by simp) (by simp); exact ⟨_, _, hr, fun _ _ _ => rfl, fun w => by simp [Go.binOp, Op.intBits, intBits]⟩
  case or => obtain rfl := hkk (by simp) (by simp); exact ⟨_, _, hr, fun _ _ _ => rfl, fun w => by simp [Go.binOp, Op.intBits, intBits]⟩
  case xor => obtain rfl := hkk (by simp) (by simp); exact ⟨_, _, hr, fun _ _ _ => rfl, fun w => by simp [Go.binOp, Op.intBits, intBits]⟩
  case andNot => obtain rfl := hkk (by simp) (by simp); exact ⟨_, _, hr, fun _ _ _ => rfl, fun w => by simp [Go.binOp, Op.intBits, intBits]⟩
  case shl =>
    have hr : ((nneg? y).bind fun _ => (retI k (shl k x y)).run st K) = some r := hr
    by_cases hy : y < 0
    · simp [nneg?, hy] at hr
    · rw [nneg?, if_neg hy] at hr
      exact ⟨_, _, hr, fun _ _ _ => rfl, fun w => by simp [Go.binOp, Op.shift, hy, shl]⟩
  case shr =>
    have hr : ((nneg? y).bind fun _ => (retI k (shr k x y)).run st K) = some r := hr
    by_cases hy : y < 0
    · simp [nneg?, hy] at hr
    · rw [nneg?, if_neg hy] at hr
      exact ⟨_, _, hr, fun _ _ _ => rfl, fun w => by simp [Go.binOp, Op.shift, hy, shr]⟩
  case eql => obtain rfl := hkk (by simp) (by simp); exact ⟨_, _, hr, fun _ _ _ => rfl, fun w => by simp [Go.binOp, Op.intCmp]⟩
  case neq => obtain rfl := hkk (by simp) (by simp); exact ⟨_, _, hr, fun _ _ _ => rfl, fun w => by simp [Go.binOp, Op.intCmp]⟩
  case lss => obtain rfl := hkk (by simp) (by simp); exact ⟨_, _, hr, fun _ _ _ => rfl, fun w => by simp [Go.binOp, Op.intCmp]⟩
  case leq => obtain rfl := hkk (by simp) (by simp); exact ⟨_, _, hr, fun _ _ _ => rfl, fun w => by simp [Go.binOp, Op.intCmp]⟩
  case gtr => obtain rfl := hkk (by simp) (by simp); exact ⟨_, _, hr, fun _ _ _ => rfl, fun w => by simp [Go.binOp, Op.intCmp]⟩
  case geq => obtain rfl := hkk (by simp) (by simp); exact ⟨_, _, hr, fun _ _ _ => rfl, fun w => by simp [Go.binOp, Op.intCmp]⟩
theorem ba_append (a b : Str) : ba a ++ ba b = ba (a ++ b) := by
  apply ByteArray.ext
  simp [ba]
theorem binStr_sound {op : BinOp} {x y : Str} {t : TypeId} {K : AV → St → Option R} (hr : (binStr op x y).run st K = some r) :
    ∃ av v, K av st = some r ∧ (∀ X ρ w, AvOk X ρ w av v) ∧ ∀ w, (Go.binOp op t (.string (ba x)) (.string (ba y))).run P w = .ok v w := by
  cases op
  case add =>
    have hr : ((cat? x y).bind fun c => (M.ret (AV.one (.str c))).run st K) = some r := hr
    unfold cat? at hr
    split at hr
    · rename_i hl
      refine ⟨_, _, hr, fun _ _ _ => rfl, fun w => ?_⟩
      have hs : ¬ (IntKind.i64.max < (((ba x).size + (ba y).size : Nat) : Int)) := by
        show ¬ ((9223372036854775807 : Int) < ((x.length + y.length : Nat) : Int))
        omega
      simp only [Go.binOp, Op.stringOp]
      rw [if_neg hs, ba_append]
      rfl
    · cases hr
  case eql => exact ⟨_, _, hr, fun _ _ _ => rfl, fun w => by simp [Go.binOp, Op.stringOp, ba_toList]⟩
  case neq => exact ⟨_, _, hr, fun _ _ _ => rfl, fun w => by simp [Go.binOp, Op.stringOp, ba_toList]⟩
  case lss => exact ⟨_, _, hr, fun _ _ _ => rfl, fun w => by simp [Go.binOp, Op.stringOp, ba_toList, lessS]⟩
  case leq => exact ⟨_, _, hr, fun _ _ _ => rfl, fun w => by simp [Go.binOp, Op.stringOp, ba_toList, lessS]⟩
  case gtr => exact ⟨_, _, hr, fun _ _ _ => rfl, fun w => by simp [Go.binOp, Op.stringOp, ba_toList, lessS]⟩
  case geq => exact ⟨_, _, hr, fun _ _ _ => rfl, fun w => by simp [Go.binOp, Op.stringOp, ba_toList, lessS]⟩
  all_goals cases hr
theorem run_eqGuard_scalar (op : BinOp) (t : TypeId) (x y : Operand) (u v : Value) (h : (∃ k n, u = .int k n) ∨ (∃ s, u = .string s) ∨ (∃ b, u = .bool b)) (w : World) : (Go.eqGuard op t x y u v).run P w = .ok () w := by
  rcases h with ⟨k, n, rfl⟩ | ⟨s, rfl⟩ | ⟨b, rfl⟩ <;> (unfold Go.eqGuard; cases op <;> rfl)
theorem good_bool (T : TiOk P C.ti) (h : Rel X ρ st a w) {op : BinOp} {t : TypeId} {x y : Operand} {p q : Bool} (hx : a.eval x = .bool p) (hy : a.eval y = .bool q)
    (hrun : ∀ v, (Go.eqGuard op t x y (a.eval x) (a.eval y)).run P w = .ok () w → (Go.binOp op t (a.eval x) (a.eval y)).run P w = .ok v w → (execOp a.eval o).run P w = .ok (.value v) w)
    (hr : (binBool C t op p q).run st K = some r) : Good P o a w X ρ st K r := by
  have gd := run_eqGuard_scalar (P := P) op t x y (a.eval x) (a.eval y) (.inr (.inr ⟨_, hx⟩)) w
  unfold binBool at hr
  split at hr
  · rename_i i hi
    cases hk : Nat.beq i.kind 5 with
    | false => rw [hk] at hr; cases hr
    | true =>
      rw [hk] at hr
      obtain ⟨d, hd, _, _, _, _, h5, _⟩ := (T t i hi).und
      have hd5 := h5 (Nat.eq_of_beq_eq_true hk)
      subst hd5
      cases op <;> first
        | cases hr
        | (refine good_same (hrun _ gd ?_) hr rfl h; rw [hx, hy]; simp [Go.binOp, run_equal_bool w t p q hd]; done)
  · cases hr
theorem good_binOp (T : TiOk P C.ti) (h : Rel X ρ st a w) (hg : Held a g) {op : BinOp} {t u : TypeId} {x y : Operand} (ho : o.op = .binOp op t x y u)
    (hr : ((opd g x).bind fun a => (opd g y).bind fun b => binOp C t op a b).run st K = some r) : Good P o a w X ρ st K r := by
  rw [M.run_bind] at hr
  obtain ⟨av, hr1, hv⟩ := opd_sound h hg hr
  clear hr
  rw [M.run_bind] at hr1
  obtain ⟨bv, hr, hw⟩ := opd_sound h hg hr1
  clear hr1
  have hrun : ∀ v, (Go.eqGuard op t x y (a.eval x) (a.eval y)).run P w = .ok () w → (Go.binOp op t (a.eval x) (a.eval y)).run P w = .ok v w → (execOp a.eval o).run P w = .ok (.value v) w := by
    intro v h1 h2
    unfold execOp
    rw [ho]
    simp [h1, h2]
  unfold binOp at hr
  split at hr
  · rename_i k m k' n
    have hx : a.eval x = .int k m := hv
    have hy : a.eval y = .int k' n := hw
    have gd := run_eqGuard_scalar (P := P) op t x y (a.eval x) (a.eval y) (.inl ⟨_, _, hx⟩) w
    split at hr
    · obtain ⟨av, v, h1, h2, h3⟩ := binInt_sound (P := P) (k' := k') (t := t) (.inl (.inl rfl)) hr
      exact good_same (hrun v gd (by rw [hx, hy]; exact h3 w)) h1 (h2 _ _ _) h
    · obtain ⟨av, v, h1, h2, h3⟩ := binInt_sound (P := P) (k' := k') (t := t) (.inl (.inr rfl)) hr
      exact good_same (hrun v gd (by rw [hx, hy]; exact h3 w)) h1 (h2 _ _ _) h
    · split at hr
      · rename_i hkk
        obtain ⟨av, v, h1, h2, h3⟩ := binInt_sound (P := P) (k' := k') (t := t) (.inr hkk) hr
        exact good_same (hrun v gd (by rw [hx, hy]; exact h3 w)) h1 (h2 _ _ _) h
      · cases hr
  · rename_i s s'
    have hx : a.eval x = .string (ba s) := hv
    have hy : a.eval y = .string (ba s') := hw
    obtain ⟨av, v, h1, h2, h3⟩ := binStr_sound (P := P) (t := t) hr
    exact good_same (hrun v (run_eqGuard_scalar op t x y _ _ (.inr (.inl ⟨_, hx⟩)) w) (by rw [hx, hy]; exact h3 w)) h1 (h2 _ _ _) h
  · exact good_bool T h hv hw hrun hr
  · exact good_bool T h hv hw hrun hr
  · rename_i xs ys
    obtain ⟨cs, hx, hxs⟩ := hv
    obtain ⟨ds, hy, hys⟩ := hw
    split at hr
    · rename_i i hi
      have Ti := T t i hi
      cases he : i.eqs with
      | false => rw [he] at hr; cases hr
      | true =>
        rw [he] at hr
        obtain ⟨h1, h2⟩ := Ti.eqs he
        replace hr : (match op, eqLeavesT (leafTys i.ty) xs ys with
          | .eql, some b => retB b
          | .neq, some b => retB (!b)
          | _, _ => M.fail).run st K = some r := hr
        have gd : (Go.eqGuard op t x y (a.eval x) (a.eval y)).run P w = .ok () w := by
          rw [hx, hy]
          unfold Go.eqGuard
          cases op <;> simp [h1]
        split at hr
        · rename_i b hb
          refine good_same (hrun _ gd ?_) hr rfl h
          rw [hx, hy]
          simp [Go.binOp, h2 X ρ w cs ds xs ys b hxs hys hb]
        · rename_i b hb
          refine good_same (hrun _ gd ?_) hr rfl h
          rw [hx, hy]
          simp [Go.binOp, h2 X ρ w cs ds xs ys b hxs hys hb]
        · cases hr
    · cases hr
  · cases hr
theorem good_unOp (h : Rel X ρ st a w) (hg : Held a g) {op : UnOp} {t : TypeId} {x : Operand} (ho : o.op = .unOp op t x)
    (hr : ((opd g x).bind fun a => unOp op a).run st K = some r) : Good P o a w X ρ st K r := by
  rw [M.run_bind] at hr
  obtain ⟨av, hr1, hv⟩ := opd_sound h hg hr
  clear hr
  have hrun : ∀ v, (Op.unary op (a.eval x)).run P w = .ok v w → (execOp a.eval o).run P w = .ok (.value v) w := by
    intro v h1
    unfold execOp
    rw [ho]
    simp [h1]
  unfold unOp at hr1
  split at hr1
  · rename_i k n
    have hx : a.eval x = .int k n := hv
    cases op <;> first
      | cases hr1
      | (refine good_same (hrun _ ?_) hr1 rfl h; rw [hx]; simp [Op.unary, Op.intArith, Op.intBits, intBits]; done)
  · rename_i b
    have hx : a.eval x = .bool b := hv
    cases op <;> first
      | cases hr1
      | (refine good_same (hrun _ ?_) hr1 rfl h; rw [hx]; simp [Op.unary]; done)
  · rename_i b
    have hx : a.eval x = .bool b := hv
    cases op <;> first
      | cases hr1
      | (refine good_same (hrun _ ?_) hr1 rfl h; rw [hx]; simp [Op.unary]; done)
  · cases hr1
end
end Go.Proofs.YtcnkbllbpimaiaaGreatDoorE
