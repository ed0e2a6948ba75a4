/-
  No cell of these rows narrows 'for every input' (looked for: loops, veiled, ifaces, maps, wideKeys, modest, calm, conditions, laid).
  DERIVED. THE GIVEN ROWS OF THIS SEAT. 7 by the template 'for every input the law returns true; each argument reads behind the call as it read before'; 0 by the template 'total and deterministic' (their statements: YtamkjoflkkffhaaTotals.lean).
  GIVEN WITH THE SEED: the statements are not yours to turn. If you find one false, say at which input.
  Laid BY PROGRAM, IN A SANDBOX (cutbox-rows.mjs): the forced cells as the released guide's own fill.sh prints them over the translation 90e3b8007f9bec6d… (all of the seat's roots in one cut). By AI agents, Wed Nov 11 2026. No macro, syntax, notation, axiom, sorry.
-/
import Derived.Test.YtamkjoflkkffhaaChecked
import GoSem.Claim
import GoSem.ClaimJoined
import GoSem.ClaimMapViews
import Derived.JoinedTies
import Derived.KernelRfl
namespace Go.Proofs.Ytamkjoflkkffhaa
/- THE CELL 'sum', in the pinned program and in every row, IS THE sha256 OF THE DUMP (.gsa) THAT YtamkjoflkkffhaaProg.lean LOADS. Nothing in Lean hashes anything: it is a label: what it is worth is what the hold of that sum in a sandbox is worth. -/
noncomputable def Try.pinned : Pinned := { name := "ytamkjoflkkffhaa", sum := "90e3b8007f9bec6df99d720c3572c76a815866e300d909a6f09a583fb45a8abe", checked := Try.checked }
namespace Rows
def none {H : Type} : Left H := { results := [], args := [] }

/-- 'laws.FnExactDelKey': WHATEVER THE INPUT: true; the input reads as it did. -/
def fnExactDelKeySpec : ChangeSpec := { name := "fnExactDelKey", fn := fun _ => fun
  | [d1, d2] => { results := [.lit (.bool true)], args := [d1, d2] }
  | _ => none }
def fnExactDelKeyRow : OpenClaim := { program := "ytamkjoflkkffhaa", sum := "90e3b8007f9bec6df99d720c3572c76a815866e300d909a6f09a583fb45a8abe", func := "loop.example/g00244/laws.FnExactDelKey", spec := "fnExactDelKey", unfollowed := true, recurses := true, apart := false }
def FnExactDelKeySaid : Prop := fnExactDelKeyRow.holds Try.pinned (OpenSpec.ofChange fnExactDelKeySpec)

/-- ITS FALSE NEIGHBOUR: 'it returns false'. Refute it at one input. -/
def fnExactDelKeyWrong : ChangeSpec := { name := "fnExactDelKey", fn := fun _ => fun
  | [d1, d2] => { results := [.lit (.bool false)], args := [d1, d2] }
  | _ => none }
def FnExactDelKeyWrongFalsely : Prop := fnExactDelKeyRow.holds Try.pinned (OpenSpec.ofChange fnExactDelKeyWrong)

/-- 'laws.FnTexts': WHATEVER THE INPUT: true; the input reads as it did. -/
def fnTextsSpec : ChangeSpec := { name := "fnTexts", fn := fun _ => fun
  | [d] => { results := [.lit (.bool true)], args := [d] }
  | _ => none }
def fnTextsRow : OpenClaim := { program := "ytamkjoflkkffhaa", sum := "90e3b8007f9bec6df99d720c3572c76a815866e300d909a6f09a583fb45a8abe", func := "loop.example/g00244/laws.FnTexts", spec := "fnTexts", apart := false }
def FnTextsSaid : Prop := fnTextsRow.holds Try.pinned (OpenSpec.ofChange fnTextsSpec)

/-- ITS FALSE NEIGHBOUR: 'it returns false'. Refute it at one input. -/
def fnTextsWrong : ChangeSpec := { name := "fnTexts", fn := fun _ => fun
  | [d] => { results := [.lit (.bool false)], args := [d] }
  | _ => none }
def FnTextsWrongFalsely : Prop := fnTextsRow.holds Try.pinned (OpenSpec.ofChange fnTextsWrong)

/-- 'laws.FnExactPutKey': WHATEVER THE INPUT: true; the input reads as it did. -/
def fnExactPutKeySpec : ChangeSpec := { name := "fnExactPutKey", fn := fun _ => fun
  | [d1, d2, d3] => { results := [.lit (.bool true)], args := [d1, d2, d3] }
  | _ => none }
def fnExactPutKeyRow : OpenClaim := { program := "ytamkjoflkkffhaa", sum := "90e3b8007f9bec6df99d720c3572c76a815866e300d909a6f09a583fb45a8abe", func := "loop.example/g00244/laws.FnExactPutKey", spec := "fnExactPutKey", inPlace := ["slices.overlaps[loop.example/g00244/impl.Pair]"], unfollowed := true, recurses := true, apart := false }
def FnExactPutKeySaid : Prop := fnExactPutKeyRow.holds Try.pinned (OpenSpec.ofChange fnExactPutKeySpec)

/-- ITS FALSE NEIGHBOUR: 'it returns false'. Refute it at one input. -/
def fnExactPutKeyWrong : ChangeSpec := { name := "fnExactPutKey", fn := fun _ => fun
  | [d1, d2, d3] => { results := [.lit (.bool false)], args := [d1, d2, d3] }
  | _ => none }
def FnExactPutKeyWrongFalsely : Prop := fnExactPutKeyRow.holds Try.pinned (OpenSpec.ofChange fnExactPutKeyWrong)

/-- 'laws.FnExactUnionOf': WHATEVER THE INPUT: true; the input reads as it did. -/
def fnExactUnionOfSpec : ChangeSpec := { name := "fnExactUnionOf", fn := fun _ => fun
  | [d1, d2] => { results := [.lit (.bool true)], args := [d1, d2] }
  | _ => none }
def fnExactUnionOfRow : OpenClaim := { program := "ytamkjoflkkffhaa", sum := "90e3b8007f9bec6df99d720c3572c76a815866e300d909a6f09a583fb45a8abe", func := "loop.example/g00244/laws.FnExactUnionOf", spec := "fnExactUnionOf", inPlace := ["slices.overlaps[loop.example/g00244/impl.Pair]"], unfollowed := true, recurses := true, apart := false }
def FnExactUnionOfSaid : Prop := fnExactUnionOfRow.holds Try.pinned (OpenSpec.ofChange fnExactUnionOfSpec)

/-- ITS FALSE NEIGHBOUR: 'it returns false'. Refute it at one input. -/
def fnExactUnionOfWrong : ChangeSpec := { name := "fnExactUnionOf", fn := fun _ => fun
  | [d1, d2] => { results := [.lit (.bool false)], args := [d1, d2] }
  | _ => none }
def FnExactUnionOfWrongFalsely : Prop := fnExactUnionOfRow.holds Try.pinned (OpenSpec.ofChange fnExactUnionOfWrong)

/-- 'laws.FnUnion': WHATEVER THE INPUT: true; the input reads as it did. -/
def fnUnionSpec : ChangeSpec := { name := "fnUnion", fn := fun _ => fun
  | [d] => { results := [.lit (.bool true)], args := [d] }
  | _ => none }
def fnUnionRow : OpenClaim := { program := "ytamkjoflkkffhaa", sum := "90e3b8007f9bec6df99d720c3572c76a815866e300d909a6f09a583fb45a8abe", func := "loop.example/g00244/laws.FnUnion", spec := "fnUnion", inPlace := ["slices.overlaps[loop.example/g00244/impl.Pair]"], unfollowed := true, recurses := true, apart := false }
def FnUnionSaid : Prop := fnUnionRow.holds Try.pinned (OpenSpec.ofChange fnUnionSpec)

/-- ITS FALSE NEIGHBOUR: 'it returns false'. Refute it at one input. -/
def fnUnionWrong : ChangeSpec := { name := "fnUnion", fn := fun _ => fun
  | [d] => { results := [.lit (.bool false)], args := [d] }
  | _ => none }
def FnUnionWrongFalsely : Prop := fnUnionRow.holds Try.pinned (OpenSpec.ofChange fnUnionWrong)

/-- 'laws.FnExactGetOps': WHATEVER THE INPUT: true; the input reads as it did. -/
def fnExactGetOpsSpec : ChangeSpec := { name := "fnExactGetOps", fn := fun _ => fun
  | [d] => { results := [.lit (.bool true)], args := [d] }
  | _ => none }
def fnExactGetOpsRow : OpenClaim := { program := "ytamkjoflkkffhaa", sum := "90e3b8007f9bec6df99d720c3572c76a815866e300d909a6f09a583fb45a8abe", func := "loop.example/g00244/laws.FnExactGetOps", spec := "fnExactGetOps", apart := false }
def FnExactGetOpsSaid : Prop := fnExactGetOpsRow.holds Try.pinned (OpenSpec.ofChange fnExactGetOpsSpec)

/-- ITS FALSE NEIGHBOUR: 'it returns false'. Refute it at one input. -/
def fnExactGetOpsWrong : ChangeSpec := { name := "fnExactGetOps", fn := fun _ => fun
  | [d] => { results := [.lit (.bool false)], args := [d] }
  | _ => none }
def FnExactGetOpsWrongFalsely : Prop := fnExactGetOpsRow.holds Try.pinned (OpenSpec.ofChange fnExactGetOpsWrong)

/-- 'laws.FnKeys': WHATEVER THE INPUT: true; the input reads as it did. -/
def fnKeysSpec : ChangeSpec := { name := "fnKeys", fn := fun _ => fun
  | [d] => { results := [.lit (.bool true)], args := [d] }
  | _ => none }
def fnKeysRow : OpenClaim := { program := "ytamkjoflkkffhaa", sum := "90e3b8007f9bec6df99d720c3572c76a815866e300d909a6f09a583fb45a8abe", func := "loop.example/g00244/laws.FnKeys", spec := "fnKeys", inPlace := ["slices.overlaps[loop.example/g00244/impl.Pair]"], unfollowed := true, recurses := true, apart := false }
def FnKeysSaid : Prop := fnKeysRow.holds Try.pinned (OpenSpec.ofChange fnKeysSpec)

/-- ITS FALSE NEIGHBOUR: 'it returns false'. Refute it at one input. -/
def fnKeysWrong : ChangeSpec := { name := "fnKeys", fn := fun _ => fun
  | [d] => { results := [.lit (.bool false)], args := [d] }
  | _ => none }
def FnKeysWrongFalsely : Prop := fnKeysRow.holds Try.pinned (OpenSpec.ofChange fnKeysWrong)

/- THE SECOND FORM. 'bulk': how many values and letters a reading holds, each counted each time it is reached (what is shared counts as often as it is met; a slice's spare places count too). A statement '..UptoSaid' is the law's where the arguments, and the package variables that the reading takes, are together of bulk at most 1048576: NARROWER than '..Said'. Prove '..Said' where nothing that the law and all that it calls make is longer than what came in: it says more and counts as full. Else prove '..UptoSaid'. A law counts once. -/
mutual
def uptoBulk {H : Type} : DataW H → Nat
  | .lit (.string bytes) => bytes.length + 1
  | .lit _ => 1
  | .nil => 1
  | .ptr d => uptoBulk d + 1
  | .slice elems spare => uptoBulkAll elems + uptoBulkAll spare + 1
  | .agg parts => uptoBulkAll parts + 1
  | .iface _ d => uptoBulk d + 1
  | .map entries => uptoBulkEntries entries + 1
  | .held _ => 1
def uptoBulkAll {H : Type} : List (DataW H) → Nat
  | [] => 0
  | d :: r => uptoBulk d + uptoBulkAll r
def uptoBulkEntries {H : Type} : List (Lit × DataW H) → Nat
  | [] => 0
  | x :: r => uptoBulkEntry x + uptoBulkEntries r
def uptoBulkEntry {H : Type} : Lit × DataW H → Nat
  | (.string bytes, d) => bytes.length + uptoBulk d + 1
  | (_, d) => uptoBulk d + 1
 end
def uptoSmall : (H : Type) → List (DataW H) → Bool := fun _ ds => decide (uptoBulkAll ds ≤ 1048576)
def OpenSpec.upto (s : _root_.Go.ChangeSpec) : _root_.Go.OpenSpec := { _root_.Go.OpenSpec.ofChange s with cond := some uptoSmall }

/-- 'laws.FnExactDelKey', WHERE WHAT IT READS IS OF BULK AT MOST 1048576: true; the input reads as it did. -/
def fnExactDelKeyUptoRow : OpenClaim := { program := "ytamkjoflkkffhaa", sum := "90e3b8007f9bec6df99d720c3572c76a815866e300d909a6f09a583fb45a8abe", func := "loop.example/g00244/laws.FnExactDelKey", spec := "fnExactDelKey", unfollowed := true, recurses := true, apart := false, narrowed := true }
def FnExactDelKeyUptoSaid : Prop := fnExactDelKeyUptoRow.holds Try.pinned (OpenSpec.upto fnExactDelKeySpec)

/-- 'laws.FnTexts', WHERE WHAT IT READS IS OF BULK AT MOST 1048576: true; the input reads as it did. -/
def fnTextsUptoRow : OpenClaim := { program := "ytamkjoflkkffhaa", sum := "90e3b8007f9bec6df99d720c3572c76a815866e300d909a6f09a583fb45a8abe", func := "loop.example/g00244/laws.FnTexts", spec := "fnTexts", apart := false, narrowed := true }
def FnTextsUptoSaid : Prop := fnTextsUptoRow.holds Try.pinned (OpenSpec.upto fnTextsSpec)

/-- 'laws.FnExactPutKey', WHERE WHAT IT READS IS OF BULK AT MOST 1048576: true; the input reads as it did. -/
def fnExactPutKeyUptoRow : OpenClaim := { program := "ytamkjoflkkffhaa", sum := "90e3b8007f9bec6df99d720c3572c76a815866e300d909a6f09a583fb45a8abe", func := "loop.example/g00244/laws.FnExactPutKey", spec := "fnExactPutKey", inPlace := ["slices.overlaps[loop.example/g00244/impl.Pair]"], unfollowed := true, recurses := true, apart := false, narrowed := true }
def FnExactPutKeyUptoSaid : Prop := fnExactPutKeyUptoRow.holds Try.pinned (OpenSpec.upto fnExactPutKeySpec)

/-- 'laws.FnExactUnionOf', WHERE WHAT IT READS IS OF BULK AT MOST 1048576: true; the input reads as it did. -/
def fnExactUnionOfUptoRow : OpenClaim := { program := "ytamkjoflkkffhaa", sum := "90e3b8007f9bec6df99d720c3572c76a815866e300d909a6f09a583fb45a8abe", func := "loop.example/g00244/laws.FnExactUnionOf", spec := "fnExactUnionOf", inPlace := ["slices.overlaps[loop.example/g00244/impl.Pair]"], unfollowed := true, recurses := true, apart := false, narrowed := true }
def FnExactUnionOfUptoSaid : Prop := fnExactUnionOfUptoRow.holds Try.pinned (OpenSpec.upto fnExactUnionOfSpec)

/-- 'laws.FnUnion', WHERE WHAT IT READS IS OF BULK AT MOST 1048576: true; the input reads as it did. -/
def fnUnionUptoRow : OpenClaim := { program := "ytamkjoflkkffhaa", sum := "90e3b8007f9bec6df99d720c3572c76a815866e300d909a6f09a583fb45a8abe", func := "loop.example/g00244/laws.FnUnion", spec := "fnUnion", inPlace := ["slices.overlaps[loop.example/g00244/impl.Pair]"], unfollowed := true, recurses := true, apart := false, narrowed := true }
def FnUnionUptoSaid : Prop := fnUnionUptoRow.holds Try.pinned (OpenSpec.upto fnUnionSpec)

/-- 'laws.FnExactGetOps', WHERE WHAT IT READS IS OF BULK AT MOST 1048576: true; the input reads as it did. -/
def fnExactGetOpsUptoRow : OpenClaim := { program := "ytamkjoflkkffhaa", sum := "90e3b8007f9bec6df99d720c3572c76a815866e300d909a6f09a583fb45a8abe", func := "loop.example/g00244/laws.FnExactGetOps", spec := "fnExactGetOps", apart := false, narrowed := true }
def FnExactGetOpsUptoSaid : Prop := fnExactGetOpsUptoRow.holds Try.pinned (OpenSpec.upto fnExactGetOpsSpec)

/-- 'laws.FnKeys', WHERE WHAT IT READS IS OF BULK AT MOST 1048576: true; the input reads as it did. -/
def fnKeysUptoRow : OpenClaim := { program := "ytamkjoflkkffhaa", sum := "90e3b8007f9bec6df99d720c3572c76a815866e300d909a6f09a583fb45a8abe", func := "loop.example/g00244/laws.FnKeys", spec := "fnKeys", inPlace := ["slices.overlaps[loop.example/g00244/impl.Pair]"], unfollowed := true, recurses := true, apart := false, narrowed := true }
def FnKeysUptoSaid : Prop := fnKeysUptoRow.holds Try.pinned (OpenSpec.upto fnKeysSpec)

end Rows
end Go.Proofs.Ytamkjoflkkffhaa
