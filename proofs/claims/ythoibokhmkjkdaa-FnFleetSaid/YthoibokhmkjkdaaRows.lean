/-
  No cell of these rows narrows 'for every input' (looked for: loops, veiled, ifaces, maps, wideKeys, modest, calm, conditions, laid).
  DERIVED. THE GIVEN ROWS OF THIS SEAT. 12 by the template 'for every input the law returns true; each argument reads behind the call as it read before'; 0 by the template 'total and deterministic' (their statements: YthoibokhmkjkdaaTotals.lean).
  GIVEN WITH THE SEED: the statements are not yours to turn. If you find one false, say at which input.
  Laid BY PROGRAM, IN A SANDBOX (cutbox-rows.mjs): the forced cells as the released guide's own fill.sh prints them over the translation 2a2d641a166b2b7d… (all of the seat's roots in one cut). By AI agents, Wed Nov 11 2026. No macro, syntax, notation, axiom, sorry.
-/
import Derived.Test.YthoibokhmkjkdaaChecked
import GoSem.Claim
import GoSem.ClaimJoined
import GoSem.ClaimMapViews
import Derived.JoinedTies
import Derived.KernelRfl
namespace Go.Proofs.Ythoibokhmkjkdaa
/- THE CELL 'sum', in the pinned program and in every row, IS THE sha256 OF THE DUMP (.gsa) THAT YthoibokhmkjkdaaProg.lean LOADS. Nothing in Lean hashes anything: it is a label: what it is worth is what the hold of that sum in a sandbox is worth. -/
noncomputable def Try.pinned : Pinned := { name := "ythoibokhmkjkdaa", sum := "2a2d641a166b2b7d1965ee543dfad33fbdf3b989904f492b3f2ec535581534aa", checked := Try.checked }
namespace Rows
def none {H : Type} : Left H := { results := [], args := [] }

/-- 'laws.FnExactShare': WHATEVER THE INPUT: true; the input reads as it did. -/
def fnExactShareSpec : ChangeSpec := { name := "fnExactShare", fn := fun _ => fun
  | [d] => { results := [.lit (.bool true)], args := [d] }
  | _ => none }
def fnExactShareRow : OpenClaim := { program := "ythoibokhmkjkdaa", sum := "2a2d641a166b2b7d1965ee543dfad33fbdf3b989904f492b3f2ec535581534aa", func := "loop.example/g00668/laws.FnExactShare", spec := "fnExactShare", unfollowed := true, recurses := true, apart := false }
def FnExactShareSaid : Prop := fnExactShareRow.holds Try.pinned (OpenSpec.ofChange fnExactShareSpec)

/-- ITS FALSE NEIGHBOUR: 'it returns false'. Refute it at one input. -/
def fnExactShareWrong : ChangeSpec := { name := "fnExactShare", fn := fun _ => fun
  | [d] => { results := [.lit (.bool false)], args := [d] }
  | _ => none }
def FnExactShareWrongFalsely : Prop := fnExactShareRow.holds Try.pinned (OpenSpec.ofChange fnExactShareWrong)

/-- 'laws.FnExactFleetNew': WHATEVER THE INPUT: true; the input reads as it did. -/
def fnExactFleetNewSpec : ChangeSpec := { name := "fnExactFleetNew", fn := fun _ => fun
  | [d1, d2, d3] => { results := [.lit (.bool true)], args := [d1, d2, d3] }
  | _ => none }
def fnExactFleetNewRow : OpenClaim := { program := "ythoibokhmkjkdaa", sum := "2a2d641a166b2b7d1965ee543dfad33fbdf3b989904f492b3f2ec535581534aa", func := "loop.example/g00668/laws.FnExactFleetNew", spec := "fnExactFleetNew", unfollowed := true, recurses := true, apart := false }
def FnExactFleetNewSaid : Prop := fnExactFleetNewRow.holds Try.pinned (OpenSpec.ofChange fnExactFleetNewSpec)

/-- ITS FALSE NEIGHBOUR: 'it returns false'. Refute it at one input. -/
def fnExactFleetNewWrong : ChangeSpec := { name := "fnExactFleetNew", fn := fun _ => fun
  | [d1, d2, d3] => { results := [.lit (.bool false)], args := [d1, d2, d3] }
  | _ => none }
def FnExactFleetNewWrongFalsely : Prop := fnExactFleetNewRow.holds Try.pinned (OpenSpec.ofChange fnExactFleetNewWrong)

/-- 'laws.FnExactTrustRead': WHATEVER THE INPUT: true; the input reads as it did. -/
def fnExactTrustReadSpec : ChangeSpec := { name := "fnExactTrustRead", fn := fun _ => fun
  | [d] => { results := [.lit (.bool true)], args := [d] }
  | _ => none }
def fnExactTrustReadRow : OpenClaim := { program := "ythoibokhmkjkdaa", sum := "2a2d641a166b2b7d1965ee543dfad33fbdf3b989904f492b3f2ec535581534aa", func := "loop.example/g00668/laws.FnExactTrustRead", spec := "fnExactTrustRead", apart := false }
def FnExactTrustReadSaid : Prop := fnExactTrustReadRow.holds Try.pinned (OpenSpec.ofChange fnExactTrustReadSpec)

/-- ITS FALSE NEIGHBOUR: 'it returns false'. Refute it at one input. -/
def fnExactTrustReadWrong : ChangeSpec := { name := "fnExactTrustRead", fn := fun _ => fun
  | [d] => { results := [.lit (.bool false)], args := [d] }
  | _ => none }
def FnExactTrustReadWrongFalsely : Prop := fnExactTrustReadRow.holds Try.pinned (OpenSpec.ofChange fnExactTrustReadWrong)

/-- 'laws.FnExactImageText': WHATEVER THE INPUT: true; the input reads as it did. -/
def fnExactImageTextSpec : ChangeSpec := { name := "fnExactImageText", fn := fun _ => fun
  | [d] => { results := [.lit (.bool true)], args := [d] }
  | _ => none }
def fnExactImageTextRow : OpenClaim := { program := "ythoibokhmkjkdaa", sum := "2a2d641a166b2b7d1965ee543dfad33fbdf3b989904f492b3f2ec535581534aa", func := "loop.example/g00668/laws.FnExactImageText", spec := "fnExactImageText", inPlace := ["internal/bytealg.CountString", "internal/bytealg.IndexByteString", "internal/bytealg.IndexString"], unfollowed := true, recurses := true, named := ["internal/bytealg.MaxLen"], apart := false }
def FnExactImageTextSaid : Prop := fnExactImageTextRow.holds Try.pinned (OpenSpec.ofChange fnExactImageTextSpec)

/-- ITS FALSE NEIGHBOUR: 'it returns false'. Refute it at one input. -/
def fnExactImageTextWrong : ChangeSpec := { name := "fnExactImageText", fn := fun _ => fun
  | [d] => { results := [.lit (.bool false)], args := [d] }
  | _ => none }
def FnExactImageTextWrongFalsely : Prop := fnExactImageTextRow.holds Try.pinned (OpenSpec.ofChange fnExactImageTextWrong)

/-- 'laws.FnExactFleetTell': WHATEVER THE INPUT: true; the input reads as it did. -/
def fnExactFleetTellSpec : ChangeSpec := { name := "fnExactFleetTell", fn := fun _ => fun
  | [d1, d2, d3] => { results := [.lit (.bool true)], args := [d1, d2, d3] }
  | _ => none }
def fnExactFleetTellRow : OpenClaim := { program := "ythoibokhmkjkdaa", sum := "2a2d641a166b2b7d1965ee543dfad33fbdf3b989904f492b3f2ec535581534aa", func := "loop.example/g00668/laws.FnExactFleetTell", spec := "fnExactFleetTell", unfollowed := true, recurses := true, apart := false }
def FnExactFleetTellSaid : Prop := fnExactFleetTellRow.holds Try.pinned (OpenSpec.ofChange fnExactFleetTellSpec)

/-- ITS FALSE NEIGHBOUR: 'it returns false'. Refute it at one input. -/
def fnExactFleetTellWrong : ChangeSpec := { name := "fnExactFleetTell", fn := fun _ => fun
  | [d1, d2, d3] => { results := [.lit (.bool false)], args := [d1, d2, d3] }
  | _ => none }
def FnExactFleetTellWrongFalsely : Prop := fnExactFleetTellRow.holds Try.pinned (OpenSpec.ofChange fnExactFleetTellWrong)

/-- 'laws.FnExactDeedRight': WHATEVER THE INPUT: true; the input reads as it did. -/
def fnExactDeedRightSpec : ChangeSpec := { name := "fnExactDeedRight", fn := fun _ => fun
  | [d] => { results := [.lit (.bool true)], args := [d] }
  | _ => none }
def fnExactDeedRightRow : OpenClaim := { program := "ythoibokhmkjkdaa", sum := "2a2d641a166b2b7d1965ee543dfad33fbdf3b989904f492b3f2ec535581534aa", func := "loop.example/g00668/laws.FnExactDeedRight", spec := "fnExactDeedRight", unfollowed := true, recurses := true, apart := false }
def FnExactDeedRightSaid : Prop := fnExactDeedRightRow.holds Try.pinned (OpenSpec.ofChange fnExactDeedRightSpec)

/-- ITS FALSE NEIGHBOUR: 'it returns false'. Refute it at one input. -/
def fnExactDeedRightWrong : ChangeSpec := { name := "fnExactDeedRight", fn := fun _ => fun
  | [d] => { results := [.lit (.bool false)], args := [d] }
  | _ => none }
def FnExactDeedRightWrongFalsely : Prop := fnExactDeedRightRow.holds Try.pinned (OpenSpec.ofChange fnExactDeedRightWrong)

/-- 'laws.FnExactFleetAsk': WHATEVER THE INPUT: true; the input reads as it did. -/
def fnExactFleetAskSpec : ChangeSpec := { name := "fnExactFleetAsk", fn := fun _ => fun
  | [d] => { results := [.lit (.bool true)], args := [d] }
  | _ => none }
def fnExactFleetAskRow : OpenClaim := { program := "ythoibokhmkjkdaa", sum := "2a2d641a166b2b7d1965ee543dfad33fbdf3b989904f492b3f2ec535581534aa", func := "loop.example/g00668/laws.FnExactFleetAsk", spec := "fnExactFleetAsk", unfollowed := true, recurses := true, apart := false }
def FnExactFleetAskSaid : Prop := fnExactFleetAskRow.holds Try.pinned (OpenSpec.ofChange fnExactFleetAskSpec)

/-- ITS FALSE NEIGHBOUR: 'it returns false'. Refute it at one input. -/
def fnExactFleetAskWrong : ChangeSpec := { name := "fnExactFleetAsk", fn := fun _ => fun
  | [d] => { results := [.lit (.bool false)], args := [d] }
  | _ => none }
def FnExactFleetAskWrongFalsely : Prop := fnExactFleetAskRow.holds Try.pinned (OpenSpec.ofChange fnExactFleetAskWrong)

/-- 'laws.FnExactFleetNext': WHATEVER THE INPUT: true; the input reads as it did. -/
def fnExactFleetNextSpec : ChangeSpec := { name := "fnExactFleetNext", fn := fun _ => fun
  | [d] => { results := [.lit (.bool true)], args := [d] }
  | _ => none }
def fnExactFleetNextRow : OpenClaim := { program := "ythoibokhmkjkdaa", sum := "2a2d641a166b2b7d1965ee543dfad33fbdf3b989904f492b3f2ec535581534aa", func := "loop.example/g00668/laws.FnExactFleetNext", spec := "fnExactFleetNext", unfollowed := true, recurses := true, apart := false }
def FnExactFleetNextSaid : Prop := fnExactFleetNextRow.holds Try.pinned (OpenSpec.ofChange fnExactFleetNextSpec)

/-- ITS FALSE NEIGHBOUR: 'it returns false'. Refute it at one input. -/
def fnExactFleetNextWrong : ChangeSpec := { name := "fnExactFleetNext", fn := fun _ => fun
  | [d] => { results := [.lit (.bool false)], args := [d] }
  | _ => none }
def FnExactFleetNextWrongFalsely : Prop := fnExactFleetNextRow.holds Try.pinned (OpenSpec.ofChange fnExactFleetNextWrong)

/-- 'laws.FnExactHeadRead': WHATEVER THE INPUT: true; the input reads as it did. -/
def fnExactHeadReadSpec : ChangeSpec := { name := "fnExactHeadRead", fn := fun _ => fun
  | [d] => { results := [.lit (.bool true)], args := [d] }
  | _ => none }
def fnExactHeadReadRow : OpenClaim := { program := "ythoibokhmkjkdaa", sum := "2a2d641a166b2b7d1965ee543dfad33fbdf3b989904f492b3f2ec535581534aa", func := "loop.example/g00668/laws.FnExactHeadRead", spec := "fnExactHeadRead", apart := false }
def FnExactHeadReadSaid : Prop := fnExactHeadReadRow.holds Try.pinned (OpenSpec.ofChange fnExactHeadReadSpec)

/-- ITS FALSE NEIGHBOUR: 'it returns false'. Refute it at one input. -/
def fnExactHeadReadWrong : ChangeSpec := { name := "fnExactHeadRead", fn := fun _ => fun
  | [d] => { results := [.lit (.bool false)], args := [d] }
  | _ => none }
def FnExactHeadReadWrongFalsely : Prop := fnExactHeadReadRow.holds Try.pinned (OpenSpec.ofChange fnExactHeadReadWrong)

/-- 'laws.FnFleet': WHATEVER THE INPUT: true; the input reads as it did. -/
def fnFleetSpec : ChangeSpec := { name := "fnFleet", fn := fun _ => fun
  | [d1, d2] => { results := [.lit (.bool true)], args := [d1, d2] }
  | _ => none }
def fnFleetRow : OpenClaim := { program := "ythoibokhmkjkdaa", sum := "2a2d641a166b2b7d1965ee543dfad33fbdf3b989904f492b3f2ec535581534aa", func := "loop.example/g00668/laws.FnFleet", spec := "fnFleet", unfollowed := true, recurses := true, apart := false }
def FnFleetSaid : Prop := fnFleetRow.holds Try.pinned (OpenSpec.ofChange fnFleetSpec)

/-- ITS FALSE NEIGHBOUR: 'it returns false'. Refute it at one input. -/
def fnFleetWrong : ChangeSpec := { name := "fnFleet", fn := fun _ => fun
  | [d1, d2] => { results := [.lit (.bool false)], args := [d1, d2] }
  | _ => none }
def FnFleetWrongFalsely : Prop := fnFleetRow.holds Try.pinned (OpenSpec.ofChange fnFleetWrong)

/-- 'laws.FnExactAgentRight': WHATEVER THE INPUT: true; the input reads as it did. -/
def fnExactAgentRightSpec : ChangeSpec := { name := "fnExactAgentRight", fn := fun _ => fun
  | [d] => { results := [.lit (.bool true)], args := [d] }
  | _ => none }
def fnExactAgentRightRow : OpenClaim := { program := "ythoibokhmkjkdaa", sum := "2a2d641a166b2b7d1965ee543dfad33fbdf3b989904f492b3f2ec535581534aa", func := "loop.example/g00668/laws.FnExactAgentRight", spec := "fnExactAgentRight", unfollowed := true, recurses := true, apart := false }
def FnExactAgentRightSaid : Prop := fnExactAgentRightRow.holds Try.pinned (OpenSpec.ofChange fnExactAgentRightSpec)

/-- ITS FALSE NEIGHBOUR: 'it returns false'. Refute it at one input. -/
def fnExactAgentRightWrong : ChangeSpec := { name := "fnExactAgentRight", fn := fun _ => fun
  | [d] => { results := [.lit (.bool false)], args := [d] }
  | _ => none }
def FnExactAgentRightWrongFalsely : Prop := fnExactAgentRightRow.holds Try.pinned (OpenSpec.ofChange fnExactAgentRightWrong)

/-- 'laws.FnExactImageRead': WHATEVER THE INPUT: true; the input reads as it did. -/
def fnExactImageReadSpec : ChangeSpec := { name := "fnExactImageRead", fn := fun _ => fun
  | [d] => { results := [.lit (.bool true)], args := [d] }
  | _ => none }
def fnExactImageReadRow : OpenClaim := { program := "ythoibokhmkjkdaa", sum := "2a2d641a166b2b7d1965ee543dfad33fbdf3b989904f492b3f2ec535581534aa", func := "loop.example/g00668/laws.FnExactImageRead", spec := "fnExactImageRead", inPlace := ["internal/abi.NoEscape", "internal/bytealg.MakeNoZero", "internal/bytealg.CountString", "internal/bytealg.IndexByteString", "internal/bytealg.IndexString"], unfollowed := true, recurses := true, named := ["internal/bytealg.MaxLen"], apart := false }
def FnExactImageReadSaid : Prop := fnExactImageReadRow.holds Try.pinned (OpenSpec.ofChange fnExactImageReadSpec)

/-- ITS FALSE NEIGHBOUR: 'it returns false'. Refute it at one input. -/
def fnExactImageReadWrong : ChangeSpec := { name := "fnExactImageRead", fn := fun _ => fun
  | [d] => { results := [.lit (.bool false)], args := [d] }
  | _ => none }
def FnExactImageReadWrongFalsely : Prop := fnExactImageReadRow.holds Try.pinned (OpenSpec.ofChange fnExactImageReadWrong)

/- THE SECOND FORM. 'bulk': how many values and letters a reading holds, each counted each time it is reached (what is shared counts as often as it is met; a slice's spare places count too). A statement '..UptoSaid' is the law's where the arguments, and the package variables that the reading takes, are together of bulk at most 1048576: NARROWER than '..Said'. Prove '..Said' where nothing that the law and all that it calls make is longer than what came in: it says more and counts as full. Else prove '..UptoSaid'. A law counts once. -/
mutual
def uptoBulk {H : Type} : DataW H → Nat
  | .lit (.string bytes) => bytes.length + 1
  | .lit _ => 1
  | .nil => 1
  | .ptr d => uptoBulk d + 1
  | .slice elems spare => uptoBulkAll elems + uptoBulkAll spare + 1
  | .agg parts => uptoBulkAll parts + 1
  | .iface _ d => uptoBulk d + 1
  | .map entries => uptoBulkEntries entries + 1
  | .held _ => 1
def uptoBulkAll {H : Type} : List (DataW H) → Nat
  | [] => 0
  | d :: r => uptoBulk d + uptoBulkAll r
def uptoBulkEntries {H : Type} : List (Lit × DataW H) → Nat
  | [] => 0
  | x :: r => uptoBulkEntry x + uptoBulkEntries r
def uptoBulkEntry {H : Type} : Lit × DataW H → Nat
  | (.string bytes, d) => bytes.length + uptoBulk d + 1
  | (_, d) => uptoBulk d + 1
 end
def uptoSmall : (H : Type) → List (DataW H) → Bool := fun _ ds => decide (uptoBulkAll ds ≤ 1048576)
def OpenSpec.upto (s : _root_.Go.ChangeSpec) : _root_.Go.OpenSpec := { _root_.Go.OpenSpec.ofChange s with cond := some uptoSmall }

/-- 'laws.FnExactShare', WHERE WHAT IT READS IS OF BULK AT MOST 1048576: true; the input reads as it did. -/
def fnExactShareUptoRow : OpenClaim := { program := "ythoibokhmkjkdaa", sum := "2a2d641a166b2b7d1965ee543dfad33fbdf3b989904f492b3f2ec535581534aa", func := "loop.example/g00668/laws.FnExactShare", spec := "fnExactShare", unfollowed := true, recurses := true, apart := false, narrowed := true }
def FnExactShareUptoSaid : Prop := fnExactShareUptoRow.holds Try.pinned (OpenSpec.upto fnExactShareSpec)

/-- 'laws.FnExactFleetNew', WHERE WHAT IT READS IS OF BULK AT MOST 1048576: true; the input reads as it did. -/
def fnExactFleetNewUptoRow : OpenClaim := { program := "ythoibokhmkjkdaa", sum := "2a2d641a166b2b7d1965ee543dfad33fbdf3b989904f492b3f2ec535581534aa", func := "loop.example/g00668/laws.FnExactFleetNew", spec := "fnExactFleetNew", unfollowed := true, recurses := true, apart := false, narrowed := true }
def FnExactFleetNewUptoSaid : Prop := fnExactFleetNewUptoRow.holds Try.pinned (OpenSpec.upto fnExactFleetNewSpec)

/-- 'laws.FnExactTrustRead', WHERE WHAT IT READS IS OF BULK AT MOST 1048576: true; the input reads as it did. -/
def fnExactTrustReadUptoRow : OpenClaim := { program := "ythoibokhmkjkdaa", sum := "2a2d641a166b2b7d1965ee543dfad33fbdf3b989904f492b3f2ec535581534aa", func := "loop.example/g00668/laws.FnExactTrustRead", spec := "fnExactTrustRead", apart := false, narrowed := true }
def FnExactTrustReadUptoSaid : Prop := fnExactTrustReadUptoRow.holds Try.pinned (OpenSpec.upto fnExactTrustReadSpec)

/-- 'laws.FnExactImageText', WHERE WHAT IT READS IS OF BULK AT MOST 1048576: true; the input reads as it did. -/
def fnExactImageTextUptoRow : OpenClaim := { program := "ythoibokhmkjkdaa", sum := "2a2d641a166b2b7d1965ee543dfad33fbdf3b989904f492b3f2ec535581534aa", func := "loop.example/g00668/laws.FnExactImageText", spec := "fnExactImageText", inPlace := ["internal/bytealg.CountString", "internal/bytealg.IndexByteString", "internal/bytealg.IndexString"], unfollowed := true, recurses := true, named := ["internal/bytealg.MaxLen"], apart := false, narrowed := true }
def FnExactImageTextUptoSaid : Prop := fnExactImageTextUptoRow.holds Try.pinned (OpenSpec.upto fnExactImageTextSpec)

/-- 'laws.FnExactFleetTell', WHERE WHAT IT READS IS OF BULK AT MOST 1048576: true; the input reads as it did. -/
def fnExactFleetTellUptoRow : OpenClaim := { program := "ythoibokhmkjkdaa", sum := "2a2d641a166b2b7d1965ee543dfad33fbdf3b989904f492b3f2ec535581534aa", func := "loop.example/g00668/laws.FnExactFleetTell", spec := "fnExactFleetTell", unfollowed := true, recurses := true, apart := false, narrowed := true }
def FnExactFleetTellUptoSaid : Prop := fnExactFleetTellUptoRow.holds Try.pinned (OpenSpec.upto fnExactFleetTellSpec)

/-- 'laws.FnExactDeedRight', WHERE WHAT IT READS IS OF BULK AT MOST 1048576: true; the input reads as it did. -/
def fnExactDeedRightUptoRow : OpenClaim := { program := "ythoibokhmkjkdaa", sum := "2a2d641a166b2b7d1965ee543dfad33fbdf3b989904f492b3f2ec535581534aa", func := "loop.example/g00668/laws.FnExactDeedRight", spec := "fnExactDeedRight", unfollowed := true, recurses := true, apart := false, narrowed := true }
def FnExactDeedRightUptoSaid : Prop := fnExactDeedRightUptoRow.holds Try.pinned (OpenSpec.upto fnExactDeedRightSpec)

/-- 'laws.FnExactFleetAsk', WHERE WHAT IT READS IS OF BULK AT MOST 1048576: true; the input reads as it did. -/
def fnExactFleetAskUptoRow : OpenClaim := { program := "ythoibokhmkjkdaa", sum := "2a2d641a166b2b7d1965ee543dfad33fbdf3b989904f492b3f2ec535581534aa", func := "loop.example/g00668/laws.FnExactFleetAsk", spec := "fnExactFleetAsk", unfollowed := true, recurses := true, apart := false, narrowed := true }
def FnExactFleetAskUptoSaid : Prop := fnExactFleetAskUptoRow.holds Try.pinned (OpenSpec.upto fnExactFleetAskSpec)

/-- 'laws.FnExactFleetNext', WHERE WHAT IT READS IS OF BULK AT MOST 1048576: true; the input reads as it did. -/
def fnExactFleetNextUptoRow : OpenClaim := { program := "ythoibokhmkjkdaa", sum := "2a2d641a166b2b7d1965ee543dfad33fbdf3b989904f492b3f2ec535581534aa", func := "loop.example/g00668/laws.FnExactFleetNext", spec := "fnExactFleetNext", unfollowed := true, recurses := true, apart := false, narrowed := true }
def FnExactFleetNextUptoSaid : Prop := fnExactFleetNextUptoRow.holds Try.pinned (OpenSpec.upto fnExactFleetNextSpec)

/-- 'laws.FnExactHeadRead', WHERE WHAT IT READS IS OF BULK AT MOST 1048576: true; the input reads as it did. -/
def fnExactHeadReadUptoRow : OpenClaim := { program := "ythoibokhmkjkdaa", sum := "2a2d641a166b2b7d1965ee543dfad33fbdf3b989904f492b3f2ec535581534aa", func := "loop.example/g00668/laws.FnExactHeadRead", spec := "fnExactHeadRead", apart := false, narrowed := true }
def FnExactHeadReadUptoSaid : Prop := fnExactHeadReadUptoRow.holds Try.pinned (OpenSpec.upto fnExactHeadReadSpec)

/-- 'laws.FnFleet', WHERE WHAT IT READS IS OF BULK AT MOST 1048576: true; the input reads as it did. -/
def fnFleetUptoRow : OpenClaim := { program := "ythoibokhmkjkdaa", sum := "2a2d641a166b2b7d1965ee543dfad33fbdf3b989904f492b3f2ec535581534aa", func := "loop.example/g00668/laws.FnFleet", spec := "fnFleet", unfollowed := true, recurses := true, apart := false, narrowed := true }
def FnFleetUptoSaid : Prop := fnFleetUptoRow.holds Try.pinned (OpenSpec.upto fnFleetSpec)

/-- 'laws.FnExactAgentRight', WHERE WHAT IT READS IS OF BULK AT MOST 1048576: true; the input reads as it did. -/
def fnExactAgentRightUptoRow : OpenClaim := { program := "ythoibokhmkjkdaa", sum := "2a2d641a166b2b7d1965ee543dfad33fbdf3b989904f492b3f2ec535581534aa", func := "loop.example/g00668/laws.FnExactAgentRight", spec := "fnExactAgentRight", unfollowed := true, recurses := true, apart := false, narrowed := true }
def FnExactAgentRightUptoSaid : Prop := fnExactAgentRightUptoRow.holds Try.pinned (OpenSpec.upto fnExactAgentRightSpec)

/-- 'laws.FnExactImageRead', WHERE WHAT IT READS IS OF BULK AT MOST 1048576: true; the input reads as it did. -/
def fnExactImageReadUptoRow : OpenClaim := { program := "ythoibokhmkjkdaa", sum := "2a2d641a166b2b7d1965ee543dfad33fbdf3b989904f492b3f2ec535581534aa", func := "loop.example/g00668/laws.FnExactImageRead", spec := "fnExactImageRead", inPlace := ["internal/abi.NoEscape", "internal/bytealg.MakeNoZero", "internal/bytealg.CountString", "internal/bytealg.IndexByteString", "internal/bytealg.IndexString"], unfollowed := true, recurses := true, named := ["internal/bytealg.MaxLen"], apart := false, narrowed := true }
def FnExactImageReadUptoSaid : Prop := fnExactImageReadUptoRow.holds Try.pinned (OpenSpec.upto fnExactImageReadSpec)

end Rows
end Go.Proofs.Ythoibokhmkjkdaa
