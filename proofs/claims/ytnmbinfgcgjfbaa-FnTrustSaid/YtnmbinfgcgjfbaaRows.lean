/-
  No cell of these rows narrows 'for every input' (looked for: loops, veiled, ifaces, maps, wideKeys, modest, calm, conditions, laid).
  DERIVED. THE GIVEN ROWS OF THIS SEAT. 4 by the template 'for every input the law returns true; each argument reads behind the call as it read before'; 0 by the template 'total and deterministic' (their statements: YtnmbinfgcgjfbaaTotals.lean).
  GIVEN WITH THE SEED: the statements are not yours to turn. If you find one false, say at which input.
  Laid BY PROGRAM, IN A SANDBOX (cutbox-rows.mjs): the forced cells as the released guide's own fill.sh prints them over the translation 920f1f3305652c83… (all of the seat's roots in one cut). By AI agents, Wed Nov 11 2026. No macro, syntax, notation, axiom, sorry.
-/
import Derived.Test.YtnmbinfgcgjfbaaChecked
import GoSem.Claim
import GoSem.ClaimJoined
import GoSem.ClaimMapViews
import Derived.JoinedTies
import Derived.KernelRfl
namespace Go.Proofs.Ytnmbinfgcgjfbaa
/- THE CELL 'sum', in the pinned program and in every row, IS THE sha256 OF THE DUMP (.gsa) THAT YtnmbinfgcgjfbaaProg.lean LOADS. Nothing in Lean hashes anything: it is a label: what it is worth is what the hold of that sum in a sandbox is worth. -/
noncomputable def Try.pinned : Pinned := { name := "ytnmbinfgcgjfbaa", sum := "920f1f3305652c836090acc957c4e31efbcdc348093c1fe53fb06c7a33ad5c63", checked := Try.checked }
namespace Rows
def none {H : Type} : Left H := { results := [], args := [] }

/-- 'laws.FnWaves': WHATEVER THE INPUT: true; the input reads as it did. -/
def fnWavesSpec : ChangeSpec := { name := "fnWaves", fn := fun _ => fun
  | [d1, d2] => { results := [.lit (.bool true)], args := [d1, d2] }
  | _ => none }
def fnWavesRow : OpenClaim := { program := "ytnmbinfgcgjfbaa", sum := "920f1f3305652c836090acc957c4e31efbcdc348093c1fe53fb06c7a33ad5c63", func := "loop.example/g00668/laws.FnWaves", spec := "fnWaves", unfollowed := true, recurses := true, apart := false }
def FnWavesSaid : Prop := fnWavesRow.holds Try.pinned (OpenSpec.ofChange fnWavesSpec)

/-- ITS FALSE NEIGHBOUR: 'it returns false'. Refute it at one input. -/
def fnWavesWrong : ChangeSpec := { name := "fnWaves", fn := fun _ => fun
  | [d1, d2] => { results := [.lit (.bool false)], args := [d1, d2] }
  | _ => none }
def FnWavesWrongFalsely : Prop := fnWavesRow.holds Try.pinned (OpenSpec.ofChange fnWavesWrong)

/-- 'laws.FnTrust': WHATEVER THE INPUT: true; the input reads as it did. -/
def fnTrustSpec : ChangeSpec := { name := "fnTrust", fn := fun _ => fun
  | [d1, d2] => { results := [.lit (.bool true)], args := [d1, d2] }
  | _ => none }
def fnTrustRow : OpenClaim := { program := "ytnmbinfgcgjfbaa", sum := "920f1f3305652c836090acc957c4e31efbcdc348093c1fe53fb06c7a33ad5c63", func := "loop.example/g00668/laws.FnTrust", spec := "fnTrust", apart := false }
def FnTrustSaid : Prop := fnTrustRow.holds Try.pinned (OpenSpec.ofChange fnTrustSpec)

/-- ITS FALSE NEIGHBOUR: 'it returns false'. Refute it at one input. -/
def fnTrustWrong : ChangeSpec := { name := "fnTrust", fn := fun _ => fun
  | [d1, d2] => { results := [.lit (.bool false)], args := [d1, d2] }
  | _ => none }
def FnTrustWrongFalsely : Prop := fnTrustRow.holds Try.pinned (OpenSpec.ofChange fnTrustWrong)

/-- 'laws.FnExactStreamOf': WHATEVER THE INPUT: true; the input reads as it did. -/
def fnExactStreamOfSpec : ChangeSpec := { name := "fnExactStreamOf", fn := fun _ => fun
  | [d] => { results := [.lit (.bool true)], args := [d] }
  | _ => none }
def fnExactStreamOfRow : OpenClaim := { program := "ytnmbinfgcgjfbaa", sum := "920f1f3305652c836090acc957c4e31efbcdc348093c1fe53fb06c7a33ad5c63", func := "loop.example/g00668/laws.FnExactStreamOf", spec := "fnExactStreamOf", unfollowed := true, recurses := true, apart := false }
def FnExactStreamOfSaid : Prop := fnExactStreamOfRow.holds Try.pinned (OpenSpec.ofChange fnExactStreamOfSpec)

/-- ITS FALSE NEIGHBOUR: 'it returns false'. Refute it at one input. -/
def fnExactStreamOfWrong : ChangeSpec := { name := "fnExactStreamOf", fn := fun _ => fun
  | [d] => { results := [.lit (.bool false)], args := [d] }
  | _ => none }
def FnExactStreamOfWrongFalsely : Prop := fnExactStreamOfRow.holds Try.pinned (OpenSpec.ofChange fnExactStreamOfWrong)

/-- 'laws.FnExactFeedPut': WHATEVER THE INPUT: true; the input reads as it did. -/
def fnExactFeedPutSpec : ChangeSpec := { name := "fnExactFeedPut", fn := fun _ => fun
  | [d1, d2] => { results := [.lit (.bool true)], args := [d1, d2] }
  | _ => none }
def fnExactFeedPutRow : OpenClaim := { program := "ytnmbinfgcgjfbaa", sum := "920f1f3305652c836090acc957c4e31efbcdc348093c1fe53fb06c7a33ad5c63", func := "loop.example/g00668/laws.FnExactFeedPut", spec := "fnExactFeedPut", apart := false }
def FnExactFeedPutSaid : Prop := fnExactFeedPutRow.holds Try.pinned (OpenSpec.ofChange fnExactFeedPutSpec)

/-- ITS FALSE NEIGHBOUR: 'it returns false'. Refute it at one input. -/
def fnExactFeedPutWrong : ChangeSpec := { name := "fnExactFeedPut", fn := fun _ => fun
  | [d1, d2] => { results := [.lit (.bool false)], args := [d1, d2] }
  | _ => none }
def FnExactFeedPutWrongFalsely : Prop := fnExactFeedPutRow.holds Try.pinned (OpenSpec.ofChange fnExactFeedPutWrong)

/- THE SECOND FORM. 'bulk': how many values and letters a reading holds, each counted each time it is reached (what is shared counts as often as it is met; a slice's spare places count too). A statement '..UptoSaid' is the law's where the arguments, and the package variables that the reading takes, are together of bulk at most 1048576: NARROWER than '..Said'. Prove '..Said' where nothing that the law and all that it calls make is longer than what came in: it says more and counts as full. Else prove '..UptoSaid'. A law counts once. -/
mutual
def uptoBulk {H : Type} : DataW H → Nat
  | .lit (.string bytes) => bytes.length + 1
  | .lit _ => 1
  | .nil => 1
  | .ptr d => uptoBulk d + 1
  | .slice elems spare => uptoBulkAll elems + uptoBulkAll spare + 1
  | .agg parts => uptoBulkAll parts + 1
  | .iface _ d => uptoBulk d + 1
  | .map entries => uptoBulkEntries entries + 1
  | .held _ => 1
def uptoBulkAll {H : Type} : List (DataW H) → Nat
  | [] => 0
  | d :: r => uptoBulk d + uptoBulkAll r
def uptoBulkEntries {H : Type} : List (Lit × DataW H) → Nat
  | [] => 0
  | x :: r => uptoBulkEntry x + uptoBulkEntries r
def uptoBulkEntry {H : Type} : Lit × DataW H → Nat
  | (.string bytes, d) => bytes.length + uptoBulk d + 1
  | (_, d) => uptoBulk d + 1
 end
def uptoSmall : (H : Type) → List (DataW H) → Bool := fun _ ds => decide (uptoBulkAll ds ≤ 1048576)
def OpenSpec.upto (s : _root_.Go.ChangeSpec) : _root_.Go.OpenSpec := { _root_.Go.OpenSpec.ofChange s with cond := some uptoSmall }

/-- 'laws.FnWaves', WHERE WHAT IT READS IS OF BULK AT MOST 1048576: true; the input reads as it did. -/
def fnWavesUptoRow : OpenClaim := { program := "ytnmbinfgcgjfbaa", sum := "920f1f3305652c836090acc957c4e31efbcdc348093c1fe53fb06c7a33ad5c63", func := "loop.example/g00668/laws.FnWaves", spec := "fnWaves", unfollowed := true, recurses := true, apart := false, narrowed := true }
def FnWavesUptoSaid : Prop := fnWavesUptoRow.holds Try.pinned (OpenSpec.upto fnWavesSpec)

/-- 'laws.FnTrust', WHERE WHAT IT READS IS OF BULK AT MOST 1048576: true; the input reads as it did. -/
def fnTrustUptoRow : OpenClaim := { program := "ytnmbinfgcgjfbaa", sum := "920f1f3305652c836090acc957c4e31efbcdc348093c1fe53fb06c7a33ad5c63", func := "loop.example/g00668/laws.FnTrust", spec := "fnTrust", apart := false, narrowed := true }
def FnTrustUptoSaid : Prop := fnTrustUptoRow.holds Try.pinned (OpenSpec.upto fnTrustSpec)

/-- 'laws.FnExactStreamOf', WHERE WHAT IT READS IS OF BULK AT MOST 1048576: true; the input reads as it did. -/
def fnExactStreamOfUptoRow : OpenClaim := { program := "ytnmbinfgcgjfbaa", sum := "920f1f3305652c836090acc957c4e31efbcdc348093c1fe53fb06c7a33ad5c63", func := "loop.example/g00668/laws.FnExactStreamOf", spec := "fnExactStreamOf", unfollowed := true, recurses := true, apart := false, narrowed := true }
def FnExactStreamOfUptoSaid : Prop := fnExactStreamOfUptoRow.holds Try.pinned (OpenSpec.upto fnExactStreamOfSpec)

/-- 'laws.FnExactFeedPut', WHERE WHAT IT READS IS OF BULK AT MOST 1048576: true; the input reads as it did. -/
def fnExactFeedPutUptoRow : OpenClaim := { program := "ytnmbinfgcgjfbaa", sum := "920f1f3305652c836090acc957c4e31efbcdc348093c1fe53fb06c7a33ad5c63", func := "loop.example/g00668/laws.FnExactFeedPut", spec := "fnExactFeedPut", apart := false, narrowed := true }
def FnExactFeedPutUptoSaid : Prop := fnExactFeedPutUptoRow.holds Try.pinned (OpenSpec.upto fnExactFeedPutSpec)

end Rows
end Go.Proofs.Ytnmbinfgcgjfbaa
