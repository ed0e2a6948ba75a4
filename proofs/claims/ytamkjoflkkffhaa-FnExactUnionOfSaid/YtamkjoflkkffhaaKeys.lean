/- Keys and pairs that are right: the program's and the reference's answer what the model answers. No condition but bounds on lengths. -/
import Derived.Test.YtamkjoflkkffhaaHash
namespace Go.Proofs.Ytamkjoflkkffhaa.P
open Go.RowKit Go.Proofs.YtamkjoflkkffhaaW.PrintWords Go.Proofs.YtamkjoflkkffhaaW.PrintLast Go.Proofs.YtamkjoflkkffhaaW.PrintMore
set_option linter.unusedVariables false
set_option linter.unusedSimpArgs false
def okB (b : Int) : Bool := decide ((97 ≤ b ∧ b ≤ 122) ∨ (48 ≤ b ∧ b ≤ 57))
def wordM (l : List Int) : Bool := l.all okB
def keyOkM (s : ByteArray) : Bool := decide (1 ≤ s.size ∧ s.size ≤ 12) && wordM (bytesOf s)
def pairOkM (key val : ByteArray) : Bool := keyOkM key && decide (val.size ≤ 20)
theorem wordM_drop (s : ByteArray) (i : Nat) (h : i < s.size) : wordM ((bytesOf s).drop i) = (okB (bt s (i : Int)) && wordM ((bytesOf s).drop (i + 1))) := by
  rw [bt_drop s i h]
  rfl
end Go.Proofs.Ytamkjoflkkffhaa.P
