/-
  No cell of these rows narrows 'for every input' (looked for: loops, veiled, ifaces, maps, wideKeys, modest, calm, conditions, laid).
  DERIVED. THE GIVEN ROWS OF THIS SEAT. 12 by the template 'for every input the law returns true; each argument reads behind the call as it read before'; 0 by the template 'total and deterministic' (their statements: YtkjljfeneoaojaaTotals.lean).
  GIVEN WITH THE SEED: the statements are not yours to turn. If you find one false, say at which input.
  Laid BY PROGRAM, IN A SANDBOX (cutbox-rows.mjs): the forced cells as the released guide's own fill.sh prints them over the translation d04f84aa331b76fd… (all of the seat's roots in one cut). By AI agents, Wed Nov 11 2026. No macro, syntax, notation, axiom, sorry.
-/
import Derived.Test.YtkjljfeneoaojaaChecked
import GoSem.Claim
import GoSem.ClaimJoined
import GoSem.ClaimMapViews
import Derived.JoinedTies
import Derived.KernelRfl
namespace Go.Proofs.Ytkjljfeneoaojaa
/- THE CELL 'sum', in the pinned program and in every row, IS THE sha256 OF THE DUMP (.gsa) THAT YtkjljfeneoaojaaProg.lean LOADS. Nothing in Lean hashes anything: it is a label: what it is worth is what the hold of that sum in a sandbox is worth. -/
noncomputable def Try.pinned : Pinned := { name := "ytkjljfeneoaojaa", sum := "d04f84aa331b76fd449c44815cd57feeefaa2a1d0fd0d3536f4e5ea290202c66", checked := Try.checked }
namespace Rows
def none {H : Type} : Left H := { results := [], args := [] }

/-- 'laws.FnExactTrustRight': WHATEVER THE INPUT: true; the input reads as it did. -/
def fnExactTrustRightSpec : ChangeSpec := { name := "fnExactTrustRight", fn := fun _ => fun
  | [d] => { results := [.lit (.bool true)], args := [d] }
  | _ => none }
def fnExactTrustRightRow : OpenClaim := { program := "ytkjljfeneoaojaa", sum := "d04f84aa331b76fd449c44815cd57feeefaa2a1d0fd0d3536f4e5ea290202c66", func := "loop.example/g00668/laws.FnExactTrustRight", spec := "fnExactTrustRight", apart := false }
def FnExactTrustRightSaid : Prop := fnExactTrustRightRow.holds Try.pinned (OpenSpec.ofChange fnExactTrustRightSpec)

/-- ITS FALSE NEIGHBOUR: 'it returns false'. Refute it at one input. -/
def fnExactTrustRightWrong : ChangeSpec := { name := "fnExactTrustRight", fn := fun _ => fun
  | [d] => { results := [.lit (.bool false)], args := [d] }
  | _ => none }
def FnExactTrustRightWrongFalsely : Prop := fnExactTrustRightRow.holds Try.pinned (OpenSpec.ofChange fnExactTrustRightWrong)

/-- 'laws.FnExactOfferRight': WHATEVER THE INPUT: true; the input reads as it did. -/
def fnExactOfferRightSpec : ChangeSpec := { name := "fnExactOfferRight", fn := fun _ => fun
  | [d] => { results := [.lit (.bool true)], args := [d] }
  | _ => none }
def fnExactOfferRightRow : OpenClaim := { program := "ytkjljfeneoaojaa", sum := "d04f84aa331b76fd449c44815cd57feeefaa2a1d0fd0d3536f4e5ea290202c66", func := "loop.example/g00668/laws.FnExactOfferRight", spec := "fnExactOfferRight", apart := false }
def FnExactOfferRightSaid : Prop := fnExactOfferRightRow.holds Try.pinned (OpenSpec.ofChange fnExactOfferRightSpec)

/-- ITS FALSE NEIGHBOUR: 'it returns false'. Refute it at one input. -/
def fnExactOfferRightWrong : ChangeSpec := { name := "fnExactOfferRight", fn := fun _ => fun
  | [d] => { results := [.lit (.bool false)], args := [d] }
  | _ => none }
def FnExactOfferRightWrongFalsely : Prop := fnExactOfferRightRow.holds Try.pinned (OpenSpec.ofChange fnExactOfferRightWrong)

/-- 'laws.FnExactHeadRight': WHATEVER THE INPUT: true; the input reads as it did. -/
def fnExactHeadRightSpec : ChangeSpec := { name := "fnExactHeadRight", fn := fun _ => fun
  | [d] => { results := [.lit (.bool true)], args := [d] }
  | _ => none }
def fnExactHeadRightRow : OpenClaim := { program := "ytkjljfeneoaojaa", sum := "d04f84aa331b76fd449c44815cd57feeefaa2a1d0fd0d3536f4e5ea290202c66", func := "loop.example/g00668/laws.FnExactHeadRight", spec := "fnExactHeadRight", apart := false }
def FnExactHeadRightSaid : Prop := fnExactHeadRightRow.holds Try.pinned (OpenSpec.ofChange fnExactHeadRightSpec)

/-- ITS FALSE NEIGHBOUR: 'it returns false'. Refute it at one input. -/
def fnExactHeadRightWrong : ChangeSpec := { name := "fnExactHeadRight", fn := fun _ => fun
  | [d] => { results := [.lit (.bool false)], args := [d] }
  | _ => none }
def FnExactHeadRightWrongFalsely : Prop := fnExactHeadRightRow.holds Try.pinned (OpenSpec.ofChange fnExactHeadRightWrong)

/-- 'laws.FnExactOfferCode': WHATEVER THE INPUT: true; the input reads as it did. -/
def fnExactOfferCodeSpec : ChangeSpec := { name := "fnExactOfferCode", fn := fun _ => fun
  | [d1, d2] => { results := [.lit (.bool true)], args := [d1, d2] }
  | _ => none }
def fnExactOfferCodeRow : OpenClaim := { program := "ytkjljfeneoaojaa", sum := "d04f84aa331b76fd449c44815cd57feeefaa2a1d0fd0d3536f4e5ea290202c66", func := "loop.example/g00668/laws.FnExactOfferCode", spec := "fnExactOfferCode", apart := false }
def FnExactOfferCodeSaid : Prop := fnExactOfferCodeRow.holds Try.pinned (OpenSpec.ofChange fnExactOfferCodeSpec)

/-- ITS FALSE NEIGHBOUR: 'it returns false'. Refute it at one input. -/
def fnExactOfferCodeWrong : ChangeSpec := { name := "fnExactOfferCode", fn := fun _ => fun
  | [d1, d2] => { results := [.lit (.bool false)], args := [d1, d2] }
  | _ => none }
def FnExactOfferCodeWrongFalsely : Prop := fnExactOfferCodeRow.holds Try.pinned (OpenSpec.ofChange fnExactOfferCodeWrong)

/-- 'laws.FnExactFeedRight': WHATEVER THE INPUT: true; the input reads as it did. -/
def fnExactFeedRightSpec : ChangeSpec := { name := "fnExactFeedRight", fn := fun _ => fun
  | [d] => { results := [.lit (.bool true)], args := [d] }
  | _ => none }
def fnExactFeedRightRow : OpenClaim := { program := "ytkjljfeneoaojaa", sum := "d04f84aa331b76fd449c44815cd57feeefaa2a1d0fd0d3536f4e5ea290202c66", func := "loop.example/g00668/laws.FnExactFeedRight", spec := "fnExactFeedRight", apart := false }
def FnExactFeedRightSaid : Prop := fnExactFeedRightRow.holds Try.pinned (OpenSpec.ofChange fnExactFeedRightSpec)

/-- ITS FALSE NEIGHBOUR: 'it returns false'. Refute it at one input. -/
def fnExactFeedRightWrong : ChangeSpec := { name := "fnExactFeedRight", fn := fun _ => fun
  | [d] => { results := [.lit (.bool false)], args := [d] }
  | _ => none }
def FnExactFeedRightWrongFalsely : Prop := fnExactFeedRightRow.holds Try.pinned (OpenSpec.ofChange fnExactFeedRightWrong)

/-- 'laws.FnExactSettle': WHATEVER THE INPUT: true; the input reads as it did. -/
def fnExactSettleSpec : ChangeSpec := { name := "fnExactSettle", fn := fun _ => fun
  | [d1, d2, d3] => { results := [.lit (.bool true)], args := [d1, d2, d3] }
  | _ => none }
def fnExactSettleRow : OpenClaim := { program := "ytkjljfeneoaojaa", sum := "d04f84aa331b76fd449c44815cd57feeefaa2a1d0fd0d3536f4e5ea290202c66", func := "loop.example/g00668/laws.FnExactSettle", spec := "fnExactSettle", apart := false }
def FnExactSettleSaid : Prop := fnExactSettleRow.holds Try.pinned (OpenSpec.ofChange fnExactSettleSpec)

/-- ITS FALSE NEIGHBOUR: 'it returns false'. Refute it at one input. -/
def fnExactSettleWrong : ChangeSpec := { name := "fnExactSettle", fn := fun _ => fun
  | [d1, d2, d3] => { results := [.lit (.bool false)], args := [d1, d2, d3] }
  | _ => none }
def FnExactSettleWrongFalsely : Prop := fnExactSettleRow.holds Try.pinned (OpenSpec.ofChange fnExactSettleWrong)

/-- 'laws.FnExactTrustBytes': WHATEVER THE INPUT: true; the input reads as it did. -/
def fnExactTrustBytesSpec : ChangeSpec := { name := "fnExactTrustBytes", fn := fun _ => fun
  | [d] => { results := [.lit (.bool true)], args := [d] }
  | _ => none }
def fnExactTrustBytesRow : OpenClaim := { program := "ytkjljfeneoaojaa", sum := "d04f84aa331b76fd449c44815cd57feeefaa2a1d0fd0d3536f4e5ea290202c66", func := "loop.example/g00668/laws.FnExactTrustBytes", spec := "fnExactTrustBytes", apart := false }
def FnExactTrustBytesSaid : Prop := fnExactTrustBytesRow.holds Try.pinned (OpenSpec.ofChange fnExactTrustBytesSpec)

/-- ITS FALSE NEIGHBOUR: 'it returns false'. Refute it at one input. -/
def fnExactTrustBytesWrong : ChangeSpec := { name := "fnExactTrustBytes", fn := fun _ => fun
  | [d] => { results := [.lit (.bool false)], args := [d] }
  | _ => none }
def FnExactTrustBytesWrongFalsely : Prop := fnExactTrustBytesRow.holds Try.pinned (OpenSpec.ofChange fnExactTrustBytesWrong)

/-- 'laws.FnExactHeadBytes': WHATEVER THE INPUT: true; the input reads as it did. -/
def fnExactHeadBytesSpec : ChangeSpec := { name := "fnExactHeadBytes", fn := fun _ => fun
  | [d] => { results := [.lit (.bool true)], args := [d] }
  | _ => none }
def fnExactHeadBytesRow : OpenClaim := { program := "ytkjljfeneoaojaa", sum := "d04f84aa331b76fd449c44815cd57feeefaa2a1d0fd0d3536f4e5ea290202c66", func := "loop.example/g00668/laws.FnExactHeadBytes", spec := "fnExactHeadBytes", apart := false }
def FnExactHeadBytesSaid : Prop := fnExactHeadBytesRow.holds Try.pinned (OpenSpec.ofChange fnExactHeadBytesSpec)

/-- ITS FALSE NEIGHBOUR: 'it returns false'. Refute it at one input. -/
def fnExactHeadBytesWrong : ChangeSpec := { name := "fnExactHeadBytes", fn := fun _ => fun
  | [d] => { results := [.lit (.bool false)], args := [d] }
  | _ => none }
def FnExactHeadBytesWrongFalsely : Prop := fnExactHeadBytesRow.holds Try.pinned (OpenSpec.ofChange fnExactHeadBytesWrong)

/-- 'laws.FnExactBestOffer': WHATEVER THE INPUT: true; the input reads as it did. -/
def fnExactBestOfferSpec : ChangeSpec := { name := "fnExactBestOffer", fn := fun _ => fun
  | [d1, d2] => { results := [.lit (.bool true)], args := [d1, d2] }
  | _ => none }
def fnExactBestOfferRow : OpenClaim := { program := "ytkjljfeneoaojaa", sum := "d04f84aa331b76fd449c44815cd57feeefaa2a1d0fd0d3536f4e5ea290202c66", func := "loop.example/g00668/laws.FnExactBestOffer", spec := "fnExactBestOffer", apart := false }
def FnExactBestOfferSaid : Prop := fnExactBestOfferRow.holds Try.pinned (OpenSpec.ofChange fnExactBestOfferSpec)

/-- ITS FALSE NEIGHBOUR: 'it returns false'. Refute it at one input. -/
def fnExactBestOfferWrong : ChangeSpec := { name := "fnExactBestOffer", fn := fun _ => fun
  | [d1, d2] => { results := [.lit (.bool false)], args := [d1, d2] }
  | _ => none }
def FnExactBestOfferWrongFalsely : Prop := fnExactBestOfferRow.holds Try.pinned (OpenSpec.ofChange fnExactBestOfferWrong)

/-- 'laws.FnWaves': WHATEVER THE INPUT: true; the input reads as it did. -/
def fnWavesSpec : ChangeSpec := { name := "fnWaves", fn := fun _ => fun
  | [d1, d2] => { results := [.lit (.bool true)], args := [d1, d2] }
  | _ => none }
def fnWavesRow : OpenClaim := { program := "ytkjljfeneoaojaa", sum := "d04f84aa331b76fd449c44815cd57feeefaa2a1d0fd0d3536f4e5ea290202c66", func := "loop.example/g00668/laws.FnWaves", spec := "fnWaves", unfollowed := true, recurses := true, apart := false }
def FnWavesSaid : Prop := fnWavesRow.holds Try.pinned (OpenSpec.ofChange fnWavesSpec)

/-- ITS FALSE NEIGHBOUR: 'it returns false'. Refute it at one input. -/
def fnWavesWrong : ChangeSpec := { name := "fnWaves", fn := fun _ => fun
  | [d1, d2] => { results := [.lit (.bool false)], args := [d1, d2] }
  | _ => none }
def FnWavesWrongFalsely : Prop := fnWavesRow.holds Try.pinned (OpenSpec.ofChange fnWavesWrong)

/-- 'laws.FnExactFleetRight': WHATEVER THE INPUT: true; the input reads as it did. -/
def fnExactFleetRightSpec : ChangeSpec := { name := "fnExactFleetRight", fn := fun _ => fun
  | [d] => { results := [.lit (.bool true)], args := [d] }
  | _ => none }
def fnExactFleetRightRow : OpenClaim := { program := "ytkjljfeneoaojaa", sum := "d04f84aa331b76fd449c44815cd57feeefaa2a1d0fd0d3536f4e5ea290202c66", func := "loop.example/g00668/laws.FnExactFleetRight", spec := "fnExactFleetRight", unfollowed := true, recurses := true, apart := false }
def FnExactFleetRightSaid : Prop := fnExactFleetRightRow.holds Try.pinned (OpenSpec.ofChange fnExactFleetRightSpec)

/-- ITS FALSE NEIGHBOUR: 'it returns false'. Refute it at one input. -/
def fnExactFleetRightWrong : ChangeSpec := { name := "fnExactFleetRight", fn := fun _ => fun
  | [d] => { results := [.lit (.bool false)], args := [d] }
  | _ => none }
def FnExactFleetRightWrongFalsely : Prop := fnExactFleetRightRow.holds Try.pinned (OpenSpec.ofChange fnExactFleetRightWrong)

/-- 'laws.FnExactHalted': WHATEVER THE INPUT: true; the input reads as it did. -/
def fnExactHaltedSpec : ChangeSpec := { name := "fnExactHalted", fn := fun _ => fun
  | [d] => { results := [.lit (.bool true)], args := [d] }
  | _ => none }
def fnExactHaltedRow : OpenClaim := { program := "ytkjljfeneoaojaa", sum := "d04f84aa331b76fd449c44815cd57feeefaa2a1d0fd0d3536f4e5ea290202c66", func := "loop.example/g00668/laws.FnExactHalted", spec := "fnExactHalted", unfollowed := true, recurses := true, apart := false }
def FnExactHaltedSaid : Prop := fnExactHaltedRow.holds Try.pinned (OpenSpec.ofChange fnExactHaltedSpec)

/-- ITS FALSE NEIGHBOUR: 'it returns false'. Refute it at one input. -/
def fnExactHaltedWrong : ChangeSpec := { name := "fnExactHalted", fn := fun _ => fun
  | [d] => { results := [.lit (.bool false)], args := [d] }
  | _ => none }
def FnExactHaltedWrongFalsely : Prop := fnExactHaltedRow.holds Try.pinned (OpenSpec.ofChange fnExactHaltedWrong)

/- THE SECOND FORM. 'bulk': how many values and letters a reading holds, each counted each time it is reached (what is shared counts as often as it is met; a slice's spare places count too). A statement '..UptoSaid' is the law's where the arguments, and the package variables that the reading takes, are together of bulk at most 1048576: NARROWER than '..Said'. Prove '..Said' where nothing that the law and all that it calls make is longer than what came in: it says more and counts as full. Else prove '..UptoSaid'. A law counts once. -/
mutual
def uptoBulk {H : Type} : DataW H → Nat
  | .lit (.string bytes) => bytes.length + 1
  | .lit _ => 1
  | .nil => 1
  | .ptr d => uptoBulk d + 1
  | .slice elems spare => uptoBulkAll elems + uptoBulkAll spare + 1
  | .agg parts => uptoBulkAll parts + 1
  | .iface _ d => uptoBulk d + 1
  | .map entries => uptoBulkEntries entries + 1
  | .held _ => 1
def uptoBulkAll {H : Type} : List (DataW H) → Nat
  | [] => 0
  | d :: r => uptoBulk d + uptoBulkAll r
def uptoBulkEntries {H : Type} : List (Lit × DataW H) → Nat
  | [] => 0
  | x :: r => uptoBulkEntry x + uptoBulkEntries r
def uptoBulkEntry {H : Type} : Lit × DataW H → Nat
  | (.string bytes, d) => bytes.length + uptoBulk d + 1
  | (_, d) => uptoBulk d + 1
 end
def uptoSmall : (H : Type) → List (DataW H) → Bool := fun _ ds => decide (uptoBulkAll ds ≤ 1048576)
def OpenSpec.upto (s : _root_.Go.ChangeSpec) : _root_.Go.OpenSpec := { _root_.Go.OpenSpec.ofChange s with cond := some uptoSmall }

/-- 'laws.FnExactTrustRight', WHERE WHAT IT READS IS OF BULK AT MOST 1048576: true; the input reads as it did. -/
def fnExactTrustRightUptoRow : OpenClaim := { program := "ytkjljfeneoaojaa", sum := "d04f84aa331b76fd449c44815cd57feeefaa2a1d0fd0d3536f4e5ea290202c66", func := "loop.example/g00668/laws.FnExactTrustRight", spec := "fnExactTrustRight", apart := false, narrowed := true }
def FnExactTrustRightUptoSaid : Prop := fnExactTrustRightUptoRow.holds Try.pinned (OpenSpec.upto fnExactTrustRightSpec)

/-- 'laws.FnExactOfferRight', WHERE WHAT IT READS IS OF BULK AT MOST 1048576: true; the input reads as it did. -/
def fnExactOfferRightUptoRow : OpenClaim := { program := "ytkjljfeneoaojaa", sum := "d04f84aa331b76fd449c44815cd57feeefaa2a1d0fd0d3536f4e5ea290202c66", func := "loop.example/g00668/laws.FnExactOfferRight", spec := "fnExactOfferRight", apart := false, narrowed := true }
def FnExactOfferRightUptoSaid : Prop := fnExactOfferRightUptoRow.holds Try.pinned (OpenSpec.upto fnExactOfferRightSpec)

/-- 'laws.FnExactHeadRight', WHERE WHAT IT READS IS OF BULK AT MOST 1048576: true; the input reads as it did. -/
def fnExactHeadRightUptoRow : OpenClaim := { program := "ytkjljfeneoaojaa", sum := "d04f84aa331b76fd449c44815cd57feeefaa2a1d0fd0d3536f4e5ea290202c66", func := "loop.example/g00668/laws.FnExactHeadRight", spec := "fnExactHeadRight", apart := false, narrowed := true }
def FnExactHeadRightUptoSaid : Prop := fnExactHeadRightUptoRow.holds Try.pinned (OpenSpec.upto fnExactHeadRightSpec)

/-- 'laws.FnExactOfferCode', WHERE WHAT IT READS IS OF BULK AT MOST 1048576: true; the input reads as it did. -/
def fnExactOfferCodeUptoRow : OpenClaim := { program := "ytkjljfeneoaojaa", sum := "d04f84aa331b76fd449c44815cd57feeefaa2a1d0fd0d3536f4e5ea290202c66", func := "loop.example/g00668/laws.FnExactOfferCode", spec := "fnExactOfferCode", apart := false, narrowed := true }
def FnExactOfferCodeUptoSaid : Prop := fnExactOfferCodeUptoRow.holds Try.pinned (OpenSpec.upto fnExactOfferCodeSpec)

/-- 'laws.FnExactFeedRight', WHERE WHAT IT READS IS OF BULK AT MOST 1048576: true; the input reads as it did. -/
def fnExactFeedRightUptoRow : OpenClaim := { program := "ytkjljfeneoaojaa", sum := "d04f84aa331b76fd449c44815cd57feeefaa2a1d0fd0d3536f4e5ea290202c66", func := "loop.example/g00668/laws.FnExactFeedRight", spec := "fnExactFeedRight", apart := false, narrowed := true }
def FnExactFeedRightUptoSaid : Prop := fnExactFeedRightUptoRow.holds Try.pinned (OpenSpec.upto fnExactFeedRightSpec)

/-- 'laws.FnExactSettle', WHERE WHAT IT READS IS OF BULK AT MOST 1048576: true; the input reads as it did. -/
def fnExactSettleUptoRow : OpenClaim := { program := "ytkjljfeneoaojaa", sum := "d04f84aa331b76fd449c44815cd57feeefaa2a1d0fd0d3536f4e5ea290202c66", func := "loop.example/g00668/laws.FnExactSettle", spec := "fnExactSettle", apart := false, narrowed := true }
def FnExactSettleUptoSaid : Prop := fnExactSettleUptoRow.holds Try.pinned (OpenSpec.upto fnExactSettleSpec)

/-- 'laws.FnExactTrustBytes', WHERE WHAT IT READS IS OF BULK AT MOST 1048576: true; the input reads as it did. -/
def fnExactTrustBytesUptoRow : OpenClaim := { program := "ytkjljfeneoaojaa", sum := "d04f84aa331b76fd449c44815cd57feeefaa2a1d0fd0d3536f4e5ea290202c66", func := "loop.example/g00668/laws.FnExactTrustBytes", spec := "fnExactTrustBytes", apart := false, narrowed := true }
def FnExactTrustBytesUptoSaid : Prop := fnExactTrustBytesUptoRow.holds Try.pinned (OpenSpec.upto fnExactTrustBytesSpec)

/-- 'laws.FnExactHeadBytes', WHERE WHAT IT READS IS OF BULK AT MOST 1048576: true; the input reads as it did. -/
def fnExactHeadBytesUptoRow : OpenClaim := { program := "ytkjljfeneoaojaa", sum := "d04f84aa331b76fd449c44815cd57feeefaa2a1d0fd0d3536f4e5ea290202c66", func := "loop.example/g00668/laws.FnExactHeadBytes", spec := "fnExactHeadBytes", apart := false, narrowed := true }
def FnExactHeadBytesUptoSaid : Prop := fnExactHeadBytesUptoRow.holds Try.pinned (OpenSpec.upto fnExactHeadBytesSpec)

/-- 'laws.FnExactBestOffer', WHERE WHAT IT READS IS OF BULK AT MOST 1048576: true; the input reads as it did. -/
def fnExactBestOfferUptoRow : OpenClaim := { program := "ytkjljfeneoaojaa", sum := "d04f84aa331b76fd449c44815cd57feeefaa2a1d0fd0d3536f4e5ea290202c66", func := "loop.example/g00668/laws.FnExactBestOffer", spec := "fnExactBestOffer", apart := false, narrowed := true }
def FnExactBestOfferUptoSaid : Prop := fnExactBestOfferUptoRow.holds Try.pinned (OpenSpec.upto fnExactBestOfferSpec)

/-- 'laws.FnWaves', WHERE WHAT IT READS IS OF BULK AT MOST 1048576: true; the input reads as it did. -/
def fnWavesUptoRow : OpenClaim := { program := "ytkjljfeneoaojaa", sum := "d04f84aa331b76fd449c44815cd57feeefaa2a1d0fd0d3536f4e5ea290202c66", func := "loop.example/g00668/laws.FnWaves", spec := "fnWaves", unfollowed := true, recurses := true, apart := false, narrowed := true }
def FnWavesUptoSaid : Prop := fnWavesUptoRow.holds Try.pinned (OpenSpec.upto fnWavesSpec)

/-- 'laws.FnExactFleetRight', WHERE WHAT IT READS IS OF BULK AT MOST 1048576: true; the input reads as it did. -/
def fnExactFleetRightUptoRow : OpenClaim := { program := "ytkjljfeneoaojaa", sum := "d04f84aa331b76fd449c44815cd57feeefaa2a1d0fd0d3536f4e5ea290202c66", func := "loop.example/g00668/laws.FnExactFleetRight", spec := "fnExactFleetRight", unfollowed := true, recurses := true, apart := false, narrowed := true }
def FnExactFleetRightUptoSaid : Prop := fnExactFleetRightUptoRow.holds Try.pinned (OpenSpec.upto fnExactFleetRightSpec)

/-- 'laws.FnExactHalted', WHERE WHAT IT READS IS OF BULK AT MOST 1048576: true; the input reads as it did. -/
def fnExactHaltedUptoRow : OpenClaim := { program := "ytkjljfeneoaojaa", sum := "d04f84aa331b76fd449c44815cd57feeefaa2a1d0fd0d3536f4e5ea290202c66", func := "loop.example/g00668/laws.FnExactHalted", spec := "fnExactHalted", unfollowed := true, recurses := true, apart := false, narrowed := true }
def FnExactHaltedUptoSaid : Prop := fnExactHaltedUptoRow.holds Try.pinned (OpenSpec.upto fnExactHaltedSpec)

end Rows
end Go.Proofs.Ytkjljfeneoaojaa
