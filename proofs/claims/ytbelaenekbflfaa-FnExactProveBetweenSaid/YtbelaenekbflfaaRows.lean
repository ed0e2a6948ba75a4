/-
  No cell of these rows narrows 'for every input' (looked for: loops, veiled, ifaces, maps, wideKeys, modest, calm, conditions, laid).
  DERIVED. THE GIVEN ROWS OF THIS SEAT. 4 by the template 'for every input the law returns true; each argument reads behind the call as it read before'; 0 by the template 'total and deterministic' (their statements: YtbelaenekbflfaaTotals.lean).
  GIVEN WITH THE SEED: the statements are not yours to turn. If you find one false, say at which input.
  Laid BY PROGRAM, IN A SANDBOX (cutbox-rows.mjs): the forced cells as the released guide's own fill.sh prints them over the translation 32dce2cce13744dd… (all of the seat's roots in one cut). By AI agents, Wed Nov 11 2026. No macro, syntax, notation, axiom, sorry.
-/
import Derived.Test.YtbelaenekbflfaaChecked
import GoSem.Claim
import GoSem.ClaimJoined
import GoSem.ClaimMapViews
import Derived.JoinedTies
import Derived.KernelRfl
namespace Go.Proofs.Ytbelaenekbflfaa
/- THE CELL 'sum', in the pinned program and in every row, IS THE sha256 OF THE DUMP (.gsa) THAT YtbelaenekbflfaaProg.lean LOADS. Nothing in Lean hashes anything: it is a label: what it is worth is what the hold of that sum in a sandbox is worth. -/
noncomputable def Try.pinned : Pinned := { name := "ytbelaenekbflfaa", sum := "32dce2cce13744ddfb591c3684d820d0e2890f874428c622929c72aedcfb9c2b", checked := Try.checked }
namespace Rows
def none {H : Type} : Left H := { results := [], args := [] }

/-- 'laws.FnExactHexOf': WHATEVER THE INPUT: true; the input reads as it did. -/
def fnExactHexOfSpec : ChangeSpec := { name := "fnExactHexOf", fn := fun _ => fun
  | [d] => { results := [.lit (.bool true)], args := [d] }
  | _ => none }
def fnExactHexOfRow : OpenClaim := { program := "ytbelaenekbflfaa", sum := "32dce2cce13744ddfb591c3684d820d0e2890f874428c622929c72aedcfb9c2b", func := "loop.example/g00244/laws.FnExactHexOf", spec := "fnExactHexOf", inPlace := ["internal/abi.NoEscape"], apart := false }
def FnExactHexOfSaid : Prop := fnExactHexOfRow.holds Try.pinned (OpenSpec.ofChange fnExactHexOfSpec)

/-- ITS FALSE NEIGHBOUR: 'it returns false'. Refute it at one input. -/
def fnExactHexOfWrong : ChangeSpec := { name := "fnExactHexOf", fn := fun _ => fun
  | [d] => { results := [.lit (.bool false)], args := [d] }
  | _ => none }
def FnExactHexOfWrongFalsely : Prop := fnExactHexOfRow.holds Try.pinned (OpenSpec.ofChange fnExactHexOfWrong)

/-- 'laws.FnDigests': WHATEVER THE INPUT: true; the input reads as it did. -/
def fnDigestsSpec : ChangeSpec := { name := "fnDigests", fn := fun _ => fun
  | [d] => { results := [.lit (.bool true)], args := [d] }
  | _ => none }
def fnDigestsRow : OpenClaim := { program := "ytbelaenekbflfaa", sum := "32dce2cce13744ddfb591c3684d820d0e2890f874428c622929c72aedcfb9c2b", func := "loop.example/g00244/laws.FnDigests", spec := "fnDigests", inPlace := ["internal/abi.NoEscape", "internal/bytealg.IndexByteString"], unfollowed := true, recurses := true, apart := false }
def FnDigestsSaid : Prop := fnDigestsRow.holds Try.pinned (OpenSpec.ofChange fnDigestsSpec)

/-- ITS FALSE NEIGHBOUR: 'it returns false'. Refute it at one input. -/
def fnDigestsWrong : ChangeSpec := { name := "fnDigests", fn := fun _ => fun
  | [d] => { results := [.lit (.bool false)], args := [d] }
  | _ => none }
def FnDigestsWrongFalsely : Prop := fnDigestsRow.holds Try.pinned (OpenSpec.ofChange fnDigestsWrong)

/-- 'laws.FnPaths': WHATEVER THE INPUT: true; the input reads as it did. -/
def fnPathsSpec : ChangeSpec := { name := "fnPaths", fn := fun _ => fun
  | [d] => { results := [.lit (.bool true)], args := [d] }
  | _ => none }
def fnPathsRow : OpenClaim := { program := "ytbelaenekbflfaa", sum := "32dce2cce13744ddfb591c3684d820d0e2890f874428c622929c72aedcfb9c2b", func := "loop.example/g00244/laws.FnPaths", spec := "fnPaths", unfollowed := true, recurses := true, apart := false }
def FnPathsSaid : Prop := fnPathsRow.holds Try.pinned (OpenSpec.ofChange fnPathsSpec)

/-- ITS FALSE NEIGHBOUR: 'it returns false'. Refute it at one input. -/
def fnPathsWrong : ChangeSpec := { name := "fnPaths", fn := fun _ => fun
  | [d] => { results := [.lit (.bool false)], args := [d] }
  | _ => none }
def FnPathsWrongFalsely : Prop := fnPathsRow.holds Try.pinned (OpenSpec.ofChange fnPathsWrong)

/-- 'laws.FnExactProveBetween': WHATEVER THE INPUT: true; the input reads as it did. -/
def fnExactProveBetweenSpec : ChangeSpec := { name := "fnExactProveBetween", fn := fun _ => fun
  | [d1, d2, d3] => { results := [.lit (.bool true)], args := [d1, d2, d3] }
  | _ => none }
def fnExactProveBetweenRow : OpenClaim := { program := "ytbelaenekbflfaa", sum := "32dce2cce13744ddfb591c3684d820d0e2890f874428c622929c72aedcfb9c2b", func := "loop.example/g00244/laws.FnExactProveBetween", spec := "fnExactProveBetween", unfollowed := true, recurses := true, apart := false }
def FnExactProveBetweenSaid : Prop := fnExactProveBetweenRow.holds Try.pinned (OpenSpec.ofChange fnExactProveBetweenSpec)

/-- ITS FALSE NEIGHBOUR: 'it returns false'. Refute it at one input. -/
def fnExactProveBetweenWrong : ChangeSpec := { name := "fnExactProveBetween", fn := fun _ => fun
  | [d1, d2, d3] => { results := [.lit (.bool false)], args := [d1, d2, d3] }
  | _ => none }
def FnExactProveBetweenWrongFalsely : Prop := fnExactProveBetweenRow.holds Try.pinned (OpenSpec.ofChange fnExactProveBetweenWrong)

/- THE SECOND FORM. 'bulk': how many values and letters a reading holds, each counted each time it is reached (what is shared counts as often as it is met; a slice's spare places count too). A statement '..UptoSaid' is the law's where the arguments, and the package variables that the reading takes, are together of bulk at most 1048576: NARROWER than '..Said'. Prove '..Said' where nothing that the law and all that it calls make is longer than what came in: it says more and counts as full. Else prove '..UptoSaid'. A law counts once. -/
mutual
def uptoBulk {H : Type} : DataW H → Nat
  | .lit (.string bytes) => bytes.length + 1
  | .lit _ => 1
  | .nil => 1
  | .ptr d => uptoBulk d + 1
  | .slice elems spare => uptoBulkAll elems + uptoBulkAll spare + 1
  | .agg parts => uptoBulkAll parts + 1
  | .iface _ d => uptoBulk d + 1
  | .map entries => uptoBulkEntries entries + 1
  | .held _ => 1
def uptoBulkAll {H : Type} : List (DataW H) → Nat
  | [] => 0
  | d :: r => uptoBulk d + uptoBulkAll r
def uptoBulkEntries {H : Type} : List (Lit × DataW H) → Nat
  | [] => 0
  | x :: r => uptoBulkEntry x + uptoBulkEntries r
def uptoBulkEntry {H : Type} : Lit × DataW H → Nat
  | (.string bytes, d) => bytes.length + uptoBulk d + 1
  | (_, d) => uptoBulk d + 1
 end
def uptoSmall : (H : Type) → List (DataW H) → Bool := fun _ ds => decide (uptoBulkAll ds ≤ 1048576)
def OpenSpec.upto (s : _root_.Go.ChangeSpec) : _root_.Go.OpenSpec := { _root_.Go.OpenSpec.ofChange s with cond := some uptoSmall }

/-- 'laws.FnExactHexOf', WHERE WHAT IT READS IS OF BULK AT MOST 1048576: true; the input reads as it did. -/
def fnExactHexOfUptoRow : OpenClaim := { program := "ytbelaenekbflfaa", sum := "32dce2cce13744ddfb591c3684d820d0e2890f874428c622929c72aedcfb9c2b", func := "loop.example/g00244/laws.FnExactHexOf", spec := "fnExactHexOf", inPlace := ["internal/abi.NoEscape"], apart := false, narrowed := true }
def FnExactHexOfUptoSaid : Prop := fnExactHexOfUptoRow.holds Try.pinned (OpenSpec.upto fnExactHexOfSpec)

/-- 'laws.FnDigests', WHERE WHAT IT READS IS OF BULK AT MOST 1048576: true; the input reads as it did. -/
def fnDigestsUptoRow : OpenClaim := { program := "ytbelaenekbflfaa", sum := "32dce2cce13744ddfb591c3684d820d0e2890f874428c622929c72aedcfb9c2b", func := "loop.example/g00244/laws.FnDigests", spec := "fnDigests", inPlace := ["internal/abi.NoEscape", "internal/bytealg.IndexByteString"], unfollowed := true, recurses := true, apart := false, narrowed := true }
def FnDigestsUptoSaid : Prop := fnDigestsUptoRow.holds Try.pinned (OpenSpec.upto fnDigestsSpec)

/-- 'laws.FnPaths', WHERE WHAT IT READS IS OF BULK AT MOST 1048576: true; the input reads as it did. -/
def fnPathsUptoRow : OpenClaim := { program := "ytbelaenekbflfaa", sum := "32dce2cce13744ddfb591c3684d820d0e2890f874428c622929c72aedcfb9c2b", func := "loop.example/g00244/laws.FnPaths", spec := "fnPaths", unfollowed := true, recurses := true, apart := false, narrowed := true }
def FnPathsUptoSaid : Prop := fnPathsUptoRow.holds Try.pinned (OpenSpec.upto fnPathsSpec)

/-- 'laws.FnExactProveBetween', WHERE WHAT IT READS IS OF BULK AT MOST 1048576: true; the input reads as it did. -/
def fnExactProveBetweenUptoRow : OpenClaim := { program := "ytbelaenekbflfaa", sum := "32dce2cce13744ddfb591c3684d820d0e2890f874428c622929c72aedcfb9c2b", func := "loop.example/g00244/laws.FnExactProveBetween", spec := "fnExactProveBetween", unfollowed := true, recurses := true, apart := false, narrowed := true }
def FnExactProveBetweenUptoSaid : Prop := fnExactProveBetweenUptoRow.holds Try.pinned (OpenSpec.upto fnExactProveBetweenSpec)

end Rows
end Go.Proofs.Ytbelaenekbflfaa
