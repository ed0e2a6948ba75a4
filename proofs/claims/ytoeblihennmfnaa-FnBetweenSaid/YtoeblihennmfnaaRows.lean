/-
  No cell of these rows narrows 'for every input' (looked for: loops, veiled, ifaces, maps, wideKeys, modest, calm, conditions, laid).
  DERIVED. THE GIVEN ROWS OF THIS SEAT. 12 by the template 'for every input the law returns true; each argument reads behind the call as it read before'; 0 by the template 'total and deterministic' (their statements: YtoeblihennmfnaaTotals.lean).
  GIVEN WITH THE SEED: the statements are not yours to turn. If you find one false, say at which input.
  Laid BY PROGRAM, IN A SANDBOX (cutbox-rows.mjs): the forced cells as the released guide's own fill.sh prints them over the translation 10cf51b020d382c0… (all of the seat's roots in one cut). By AI agents, Wed Nov 11 2026. No macro, syntax, notation, axiom, sorry.
-/
import Derived.Test.YtoeblihennmfnaaChecked
import GoSem.Claim
import GoSem.ClaimJoined
import GoSem.ClaimMapViews
import Derived.JoinedTies
import Derived.KernelRfl
namespace Go.Proofs.Ytoeblihennmfnaa
/- THE CELL 'sum', in the pinned program and in every row, IS THE sha256 OF THE DUMP (.gsa) THAT YtoeblihennmfnaaProg.lean LOADS. Nothing in Lean hashes anything: it is a label: what it is worth is what the hold of that sum in a sandbox is worth. -/
noncomputable def Try.pinned : Pinned := { name := "ytoeblihennmfnaa", sum := "10cf51b020d382c09b8454563bfb54609ceaf0a95ccce17bb5619194d5d31cc8", checked := Try.checked }
namespace Rows
def none {H : Type} : Left H := { results := [], args := [] }

/-- 'laws.FnExactGetKey': WHATEVER THE INPUT: true; the input reads as it did. -/
def fnExactGetKeySpec : ChangeSpec := { name := "fnExactGetKey", fn := fun _ => fun
  | [d1, d2] => { results := [.lit (.bool true)], args := [d1, d2] }
  | _ => none }
def fnExactGetKeyRow : OpenClaim := { program := "ytoeblihennmfnaa", sum := "10cf51b020d382c09b8454563bfb54609ceaf0a95ccce17bb5619194d5d31cc8", func := "loop.example/g00244/laws.FnExactGetKey", spec := "fnExactGetKey", unfollowed := true, recurses := true, apart := false }
def FnExactGetKeySaid : Prop := fnExactGetKeyRow.holds Try.pinned (OpenSpec.ofChange fnExactGetKeySpec)

/-- ITS FALSE NEIGHBOUR: 'it returns false'. Refute it at one input. -/
def fnExactGetKeyWrong : ChangeSpec := { name := "fnExactGetKey", fn := fun _ => fun
  | [d1, d2] => { results := [.lit (.bool false)], args := [d1, d2] }
  | _ => none }
def FnExactGetKeyWrongFalsely : Prop := fnExactGetKeyRow.holds Try.pinned (OpenSpec.ofChange fnExactGetKeyWrong)

/-- 'laws.FnNums': WHATEVER THE INPUT: true; the input reads as it did. -/
def fnNumsSpec : ChangeSpec := { name := "fnNums", fn := fun _ => fun
  | [d] => { results := [.lit (.bool true)], args := [d] }
  | _ => none }
def fnNumsRow : OpenClaim := { program := "ytoeblihennmfnaa", sum := "10cf51b020d382c09b8454563bfb54609ceaf0a95ccce17bb5619194d5d31cc8", func := "loop.example/g00244/laws.FnNums", spec := "fnNums", apart := false }
def FnNumsSaid : Prop := fnNumsRow.holds Try.pinned (OpenSpec.ofChange fnNumsSpec)

/-- ITS FALSE NEIGHBOUR: 'it returns false'. Refute it at one input. -/
def fnNumsWrong : ChangeSpec := { name := "fnNums", fn := fun _ => fun
  | [d] => { results := [.lit (.bool false)], args := [d] }
  | _ => none }
def FnNumsWrongFalsely : Prop := fnNumsRow.holds Try.pinned (OpenSpec.ofChange fnNumsWrong)

/-- 'laws.FnExactPairsOk': WHATEVER THE INPUT: true; the input reads as it did. -/
def fnExactPairsOkSpec : ChangeSpec := { name := "fnExactPairsOk", fn := fun _ => fun
  | [d] => { results := [.lit (.bool true)], args := [d] }
  | _ => none }
def fnExactPairsOkRow : OpenClaim := { program := "ytoeblihennmfnaa", sum := "10cf51b020d382c09b8454563bfb54609ceaf0a95ccce17bb5619194d5d31cc8", func := "loop.example/g00244/laws.FnExactPairsOk", spec := "fnExactPairsOk", apart := false }
def FnExactPairsOkSaid : Prop := fnExactPairsOkRow.holds Try.pinned (OpenSpec.ofChange fnExactPairsOkSpec)

/-- ITS FALSE NEIGHBOUR: 'it returns false'. Refute it at one input. -/
def fnExactPairsOkWrong : ChangeSpec := { name := "fnExactPairsOk", fn := fun _ => fun
  | [d] => { results := [.lit (.bool false)], args := [d] }
  | _ => none }
def FnExactPairsOkWrongFalsely : Prop := fnExactPairsOkRow.holds Try.pinned (OpenSpec.ofChange fnExactPairsOkWrong)

/-- 'laws.FnExactBetween': WHATEVER THE INPUT: true; the input reads as it did. -/
def fnExactBetweenSpec : ChangeSpec := { name := "fnExactBetween", fn := fun _ => fun
  | [d1, d2, d3] => { results := [.lit (.bool true)], args := [d1, d2, d3] }
  | _ => none }
def fnExactBetweenRow : OpenClaim := { program := "ytoeblihennmfnaa", sum := "10cf51b020d382c09b8454563bfb54609ceaf0a95ccce17bb5619194d5d31cc8", func := "loop.example/g00244/laws.FnExactBetween", spec := "fnExactBetween", apart := false }
def FnExactBetweenSaid : Prop := fnExactBetweenRow.holds Try.pinned (OpenSpec.ofChange fnExactBetweenSpec)

/-- ITS FALSE NEIGHBOUR: 'it returns false'. Refute it at one input. -/
def fnExactBetweenWrong : ChangeSpec := { name := "fnExactBetween", fn := fun _ => fun
  | [d1, d2, d3] => { results := [.lit (.bool false)], args := [d1, d2, d3] }
  | _ => none }
def FnExactBetweenWrongFalsely : Prop := fnExactBetweenRow.holds Try.pinned (OpenSpec.ofChange fnExactBetweenWrong)

/-- 'laws.FnExactOpsOk': WHATEVER THE INPUT: true; the input reads as it did. -/
def fnExactOpsOkSpec : ChangeSpec := { name := "fnExactOpsOk", fn := fun _ => fun
  | [d] => { results := [.lit (.bool true)], args := [d] }
  | _ => none }
def fnExactOpsOkRow : OpenClaim := { program := "ytoeblihennmfnaa", sum := "10cf51b020d382c09b8454563bfb54609ceaf0a95ccce17bb5619194d5d31cc8", func := "loop.example/g00244/laws.FnExactOpsOk", spec := "fnExactOpsOk", apart := false }
def FnExactOpsOkSaid : Prop := fnExactOpsOkRow.holds Try.pinned (OpenSpec.ofChange fnExactOpsOkSpec)

/-- ITS FALSE NEIGHBOUR: 'it returns false'. Refute it at one input. -/
def fnExactOpsOkWrong : ChangeSpec := { name := "fnExactOpsOk", fn := fun _ => fun
  | [d] => { results := [.lit (.bool false)], args := [d] }
  | _ => none }
def FnExactOpsOkWrongFalsely : Prop := fnExactOpsOkRow.holds Try.pinned (OpenSpec.ofChange fnExactOpsOkWrong)

/-- 'laws.FnPairs': WHATEVER THE INPUT: true; the input reads as it did. -/
def fnPairsSpec : ChangeSpec := { name := "fnPairs", fn := fun _ => fun
  | [d] => { results := [.lit (.bool true)], args := [d] }
  | _ => none }
def fnPairsRow : OpenClaim := { program := "ytoeblihennmfnaa", sum := "10cf51b020d382c09b8454563bfb54609ceaf0a95ccce17bb5619194d5d31cc8", func := "loop.example/g00244/laws.FnPairs", spec := "fnPairs", apart := false }
def FnPairsSaid : Prop := fnPairsRow.holds Try.pinned (OpenSpec.ofChange fnPairsSpec)

/-- ITS FALSE NEIGHBOUR: 'it returns false'. Refute it at one input. -/
def fnPairsWrong : ChangeSpec := { name := "fnPairs", fn := fun _ => fun
  | [d] => { results := [.lit (.bool false)], args := [d] }
  | _ => none }
def FnPairsWrongFalsely : Prop := fnPairsRow.holds Try.pinned (OpenSpec.ofChange fnPairsWrong)

/-- 'laws.FnBetween': WHATEVER THE INPUT: true; the input reads as it did. -/
def fnBetweenSpec : ChangeSpec := { name := "fnBetween", fn := fun _ => fun
  | [d] => { results := [.lit (.bool true)], args := [d] }
  | _ => none }
def fnBetweenRow : OpenClaim := { program := "ytoeblihennmfnaa", sum := "10cf51b020d382c09b8454563bfb54609ceaf0a95ccce17bb5619194d5d31cc8", func := "loop.example/g00244/laws.FnBetween", spec := "fnBetween", apart := false }
def FnBetweenSaid : Prop := fnBetweenRow.holds Try.pinned (OpenSpec.ofChange fnBetweenSpec)

/-- ITS FALSE NEIGHBOUR: 'it returns false'. Refute it at one input. -/
def fnBetweenWrong : ChangeSpec := { name := "fnBetween", fn := fun _ => fun
  | [d] => { results := [.lit (.bool false)], args := [d] }
  | _ => none }
def FnBetweenWrongFalsely : Prop := fnBetweenRow.holds Try.pinned (OpenSpec.ofChange fnBetweenWrong)

/-- 'laws.FnExactPutTexts': WHATEVER THE INPUT: true; the input reads as it did. -/
def fnExactPutTextsSpec : ChangeSpec := { name := "fnExactPutTexts", fn := fun _ => fun
  | [d1, d2] => { results := [.lit (.bool true)], args := [d1, d2] }
  | _ => none }
def fnExactPutTextsRow : OpenClaim := { program := "ytoeblihennmfnaa", sum := "10cf51b020d382c09b8454563bfb54609ceaf0a95ccce17bb5619194d5d31cc8", func := "loop.example/g00244/laws.FnExactPutTexts", spec := "fnExactPutTexts", apart := false }
def FnExactPutTextsSaid : Prop := fnExactPutTextsRow.holds Try.pinned (OpenSpec.ofChange fnExactPutTextsSpec)

/-- ITS FALSE NEIGHBOUR: 'it returns false'. Refute it at one input. -/
def fnExactPutTextsWrong : ChangeSpec := { name := "fnExactPutTexts", fn := fun _ => fun
  | [d1, d2] => { results := [.lit (.bool false)], args := [d1, d2] }
  | _ => none }
def FnExactPutTextsWrongFalsely : Prop := fnExactPutTextsRow.holds Try.pinned (OpenSpec.ofChange fnExactPutTextsWrong)

/-- 'laws.FnExactDelKey': WHATEVER THE INPUT: true; the input reads as it did. -/
def fnExactDelKeySpec : ChangeSpec := { name := "fnExactDelKey", fn := fun _ => fun
  | [d1, d2] => { results := [.lit (.bool true)], args := [d1, d2] }
  | _ => none }
def fnExactDelKeyRow : OpenClaim := { program := "ytoeblihennmfnaa", sum := "10cf51b020d382c09b8454563bfb54609ceaf0a95ccce17bb5619194d5d31cc8", func := "loop.example/g00244/laws.FnExactDelKey", spec := "fnExactDelKey", unfollowed := true, recurses := true, apart := false }
def FnExactDelKeySaid : Prop := fnExactDelKeyRow.holds Try.pinned (OpenSpec.ofChange fnExactDelKeySpec)

/-- ITS FALSE NEIGHBOUR: 'it returns false'. Refute it at one input. -/
def fnExactDelKeyWrong : ChangeSpec := { name := "fnExactDelKey", fn := fun _ => fun
  | [d1, d2] => { results := [.lit (.bool false)], args := [d1, d2] }
  | _ => none }
def FnExactDelKeyWrongFalsely : Prop := fnExactDelKeyRow.holds Try.pinned (OpenSpec.ofChange fnExactDelKeyWrong)

/-- 'laws.FnExactGetTexts': WHATEVER THE INPUT: true; the input reads as it did. -/
def fnExactGetTextsSpec : ChangeSpec := { name := "fnExactGetTexts", fn := fun _ => fun
  | [d1, d2] => { results := [.lit (.bool true)], args := [d1, d2] }
  | _ => none }
def fnExactGetTextsRow : OpenClaim := { program := "ytoeblihennmfnaa", sum := "10cf51b020d382c09b8454563bfb54609ceaf0a95ccce17bb5619194d5d31cc8", func := "loop.example/g00244/laws.FnExactGetTexts", spec := "fnExactGetTexts", apart := false }
def FnExactGetTextsSaid : Prop := fnExactGetTextsRow.holds Try.pinned (OpenSpec.ofChange fnExactGetTextsSpec)

/-- ITS FALSE NEIGHBOUR: 'it returns false'. Refute it at one input. -/
def fnExactGetTextsWrong : ChangeSpec := { name := "fnExactGetTexts", fn := fun _ => fun
  | [d1, d2] => { results := [.lit (.bool false)], args := [d1, d2] }
  | _ => none }
def FnExactGetTextsWrongFalsely : Prop := fnExactGetTextsRow.holds Try.pinned (OpenSpec.ofChange fnExactGetTextsWrong)

/-- 'laws.FnExactOpsFor': WHATEVER THE INPUT: true; the input reads as it did. -/
def fnExactOpsForSpec : ChangeSpec := { name := "fnExactOpsFor", fn := fun _ => fun
  | [d1, d2, d3] => { results := [.lit (.bool true)], args := [d1, d2, d3] }
  | _ => none }
def fnExactOpsForRow : OpenClaim := { program := "ytoeblihennmfnaa", sum := "10cf51b020d382c09b8454563bfb54609ceaf0a95ccce17bb5619194d5d31cc8", func := "loop.example/g00244/laws.FnExactOpsFor", spec := "fnExactOpsFor", apart := false }
def FnExactOpsForSaid : Prop := fnExactOpsForRow.holds Try.pinned (OpenSpec.ofChange fnExactOpsForSpec)

/-- ITS FALSE NEIGHBOUR: 'it returns false'. Refute it at one input. -/
def fnExactOpsForWrong : ChangeSpec := { name := "fnExactOpsFor", fn := fun _ => fun
  | [d1, d2, d3] => { results := [.lit (.bool false)], args := [d1, d2, d3] }
  | _ => none }
def FnExactOpsForWrongFalsely : Prop := fnExactOpsForRow.holds Try.pinned (OpenSpec.ofChange fnExactOpsForWrong)

/-- 'laws.FnTexts': WHATEVER THE INPUT: true; the input reads as it did. -/
def fnTextsSpec : ChangeSpec := { name := "fnTexts", fn := fun _ => fun
  | [d] => { results := [.lit (.bool true)], args := [d] }
  | _ => none }
def fnTextsRow : OpenClaim := { program := "ytoeblihennmfnaa", sum := "10cf51b020d382c09b8454563bfb54609ceaf0a95ccce17bb5619194d5d31cc8", func := "loop.example/g00244/laws.FnTexts", spec := "fnTexts", apart := false }
def FnTextsSaid : Prop := fnTextsRow.holds Try.pinned (OpenSpec.ofChange fnTextsSpec)

/-- ITS FALSE NEIGHBOUR: 'it returns false'. Refute it at one input. -/
def fnTextsWrong : ChangeSpec := { name := "fnTexts", fn := fun _ => fun
  | [d] => { results := [.lit (.bool false)], args := [d] }
  | _ => none }
def FnTextsWrongFalsely : Prop := fnTextsRow.holds Try.pinned (OpenSpec.ofChange fnTextsWrong)

/- THE SECOND FORM. 'bulk': how many values and letters a reading holds, each counted each time it is reached (what is shared counts as often as it is met; a slice's spare places count too). A statement '..UptoSaid' is the law's where the arguments, and the package variables that the reading takes, are together of bulk at most 1048576: NARROWER than '..Said'. Prove '..Said' where nothing that the law and all that it calls make is longer than what came in: it says more and counts as full. Else prove '..UptoSaid'. A law counts once. -/
mutual
def uptoBulk {H : Type} : DataW H → Nat
  | .lit (.string bytes) => bytes.length + 1
  | .lit _ => 1
  | .nil => 1
  | .ptr d => uptoBulk d + 1
  | .slice elems spare => uptoBulkAll elems + uptoBulkAll spare + 1
  | .agg parts => uptoBulkAll parts + 1
  | .iface _ d => uptoBulk d + 1
  | .map entries => uptoBulkEntries entries + 1
  | .held _ => 1
def uptoBulkAll {H : Type} : List (DataW H) → Nat
  | [] => 0
  | d :: r => uptoBulk d + uptoBulkAll r
def uptoBulkEntries {H : Type} : List (Lit × DataW H) → Nat
  | [] => 0
  | x :: r => uptoBulkEntry x + uptoBulkEntries r
def uptoBulkEntry {H : Type} : Lit × DataW H → Nat
  | (.string bytes, d) => bytes.length + uptoBulk d + 1
  | (_, d) => uptoBulk d + 1
 end
def uptoSmall : (H : Type) → List (DataW H) → Bool := fun _ ds => decide (uptoBulkAll ds ≤ 1048576)
def OpenSpec.upto (s : _root_.Go.ChangeSpec) : _root_.Go.OpenSpec := { _root_.Go.OpenSpec.ofChange s with cond := some uptoSmall }

/-- 'laws.FnExactGetKey', WHERE WHAT IT READS IS OF BULK AT MOST 1048576: true; the input reads as it did. -/
def fnExactGetKeyUptoRow : OpenClaim := { program := "ytoeblihennmfnaa", sum := "10cf51b020d382c09b8454563bfb54609ceaf0a95ccce17bb5619194d5d31cc8", func := "loop.example/g00244/laws.FnExactGetKey", spec := "fnExactGetKey", unfollowed := true, recurses := true, apart := false, narrowed := true }
def FnExactGetKeyUptoSaid : Prop := fnExactGetKeyUptoRow.holds Try.pinned (OpenSpec.upto fnExactGetKeySpec)

/-- 'laws.FnNums', WHERE WHAT IT READS IS OF BULK AT MOST 1048576: true; the input reads as it did. -/
def fnNumsUptoRow : OpenClaim := { program := "ytoeblihennmfnaa", sum := "10cf51b020d382c09b8454563bfb54609ceaf0a95ccce17bb5619194d5d31cc8", func := "loop.example/g00244/laws.FnNums", spec := "fnNums", apart := false, narrowed := true }
def FnNumsUptoSaid : Prop := fnNumsUptoRow.holds Try.pinned (OpenSpec.upto fnNumsSpec)

/-- 'laws.FnExactPairsOk', WHERE WHAT IT READS IS OF BULK AT MOST 1048576: true; the input reads as it did. -/
def fnExactPairsOkUptoRow : OpenClaim := { program := "ytoeblihennmfnaa", sum := "10cf51b020d382c09b8454563bfb54609ceaf0a95ccce17bb5619194d5d31cc8", func := "loop.example/g00244/laws.FnExactPairsOk", spec := "fnExactPairsOk", apart := false, narrowed := true }
def FnExactPairsOkUptoSaid : Prop := fnExactPairsOkUptoRow.holds Try.pinned (OpenSpec.upto fnExactPairsOkSpec)

/-- 'laws.FnExactBetween', WHERE WHAT IT READS IS OF BULK AT MOST 1048576: true; the input reads as it did. -/
def fnExactBetweenUptoRow : OpenClaim := { program := "ytoeblihennmfnaa", sum := "10cf51b020d382c09b8454563bfb54609ceaf0a95ccce17bb5619194d5d31cc8", func := "loop.example/g00244/laws.FnExactBetween", spec := "fnExactBetween", apart := false, narrowed := true }
def FnExactBetweenUptoSaid : Prop := fnExactBetweenUptoRow.holds Try.pinned (OpenSpec.upto fnExactBetweenSpec)

/-- 'laws.FnExactOpsOk', WHERE WHAT IT READS IS OF BULK AT MOST 1048576: true; the input reads as it did. -/
def fnExactOpsOkUptoRow : OpenClaim := { program := "ytoeblihennmfnaa", sum := "10cf51b020d382c09b8454563bfb54609ceaf0a95ccce17bb5619194d5d31cc8", func := "loop.example/g00244/laws.FnExactOpsOk", spec := "fnExactOpsOk", apart := false, narrowed := true }
def FnExactOpsOkUptoSaid : Prop := fnExactOpsOkUptoRow.holds Try.pinned (OpenSpec.upto fnExactOpsOkSpec)

/-- 'laws.FnPairs', WHERE WHAT IT READS IS OF BULK AT MOST 1048576: true; the input reads as it did. -/
def fnPairsUptoRow : OpenClaim := { program := "ytoeblihennmfnaa", sum := "10cf51b020d382c09b8454563bfb54609ceaf0a95ccce17bb5619194d5d31cc8", func := "loop.example/g00244/laws.FnPairs", spec := "fnPairs", apart := false, narrowed := true }
def FnPairsUptoSaid : Prop := fnPairsUptoRow.holds Try.pinned (OpenSpec.upto fnPairsSpec)

/-- 'laws.FnBetween', WHERE WHAT IT READS IS OF BULK AT MOST 1048576: true; the input reads as it did. -/
def fnBetweenUptoRow : OpenClaim := { program := "ytoeblihennmfnaa", sum := "10cf51b020d382c09b8454563bfb54609ceaf0a95ccce17bb5619194d5d31cc8", func := "loop.example/g00244/laws.FnBetween", spec := "fnBetween", apart := false, narrowed := true }
def FnBetweenUptoSaid : Prop := fnBetweenUptoRow.holds Try.pinned (OpenSpec.upto fnBetweenSpec)

/-- 'laws.FnExactPutTexts', WHERE WHAT IT READS IS OF BULK AT MOST 1048576: true; the input reads as it did. -/
def fnExactPutTextsUptoRow : OpenClaim := { program := "ytoeblihennmfnaa", sum := "10cf51b020d382c09b8454563bfb54609ceaf0a95ccce17bb5619194d5d31cc8", func := "loop.example/g00244/laws.FnExactPutTexts", spec := "fnExactPutTexts", apart := false, narrowed := true }
def FnExactPutTextsUptoSaid : Prop := fnExactPutTextsUptoRow.holds Try.pinned (OpenSpec.upto fnExactPutTextsSpec)

/-- 'laws.FnExactDelKey', WHERE WHAT IT READS IS OF BULK AT MOST 1048576: true; the input reads as it did. -/
def fnExactDelKeyUptoRow : OpenClaim := { program := "ytoeblihennmfnaa", sum := "10cf51b020d382c09b8454563bfb54609ceaf0a95ccce17bb5619194d5d31cc8", func := "loop.example/g00244/laws.FnExactDelKey", spec := "fnExactDelKey", unfollowed := true, recurses := true, apart := false, narrowed := true }
def FnExactDelKeyUptoSaid : Prop := fnExactDelKeyUptoRow.holds Try.pinned (OpenSpec.upto fnExactDelKeySpec)

/-- 'laws.FnExactGetTexts', WHERE WHAT IT READS IS OF BULK AT MOST 1048576: true; the input reads as it did. -/
def fnExactGetTextsUptoRow : OpenClaim := { program := "ytoeblihennmfnaa", sum := "10cf51b020d382c09b8454563bfb54609ceaf0a95ccce17bb5619194d5d31cc8", func := "loop.example/g00244/laws.FnExactGetTexts", spec := "fnExactGetTexts", apart := false, narrowed := true }
def FnExactGetTextsUptoSaid : Prop := fnExactGetTextsUptoRow.holds Try.pinned (OpenSpec.upto fnExactGetTextsSpec)

/-- 'laws.FnExactOpsFor', WHERE WHAT IT READS IS OF BULK AT MOST 1048576: true; the input reads as it did. -/
def fnExactOpsForUptoRow : OpenClaim := { program := "ytoeblihennmfnaa", sum := "10cf51b020d382c09b8454563bfb54609ceaf0a95ccce17bb5619194d5d31cc8", func := "loop.example/g00244/laws.FnExactOpsFor", spec := "fnExactOpsFor", apart := false, narrowed := true }
def FnExactOpsForUptoSaid : Prop := fnExactOpsForUptoRow.holds Try.pinned (OpenSpec.upto fnExactOpsForSpec)

/-- 'laws.FnTexts', WHERE WHAT IT READS IS OF BULK AT MOST 1048576: true; the input reads as it did. -/
def fnTextsUptoRow : OpenClaim := { program := "ytoeblihennmfnaa", sum := "10cf51b020d382c09b8454563bfb54609ceaf0a95ccce17bb5619194d5d31cc8", func := "loop.example/g00244/laws.FnTexts", spec := "fnTexts", apart := false, narrowed := true }
def FnTextsUptoSaid : Prop := fnTextsUptoRow.holds Try.pinned (OpenSpec.upto fnTextsSpec)

end Rows
end Go.Proofs.Ytoeblihennmfnaa
