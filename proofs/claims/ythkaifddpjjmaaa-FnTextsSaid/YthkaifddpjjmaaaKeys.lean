/- Keys and pairs that are right: the program's and the reference's answer what the model answers. No condition but bounds on lengths. -/
import Derived.Test.YthkaifddpjjmaaaHash
import Derived.Test.YthkaifddpjjmaaaPx3
namespace Go.Proofs.Ythkaifddpjjmaaa.P
open Go.RowKit Go.Proofs.YthkaifddpjjmaaaW.PrintWords Go.Proofs.YthkaifddpjjmaaaW.PrintLast Go.Proofs.YthkaifddpjjmaaaW.PrintMore
set_option linter.unusedVariables false
set_option linter.unusedSimpArgs false
def okB (b : Int) : Bool := decide ((97 ≤ b ∧ b ≤ 122) ∨ (48 ≤ b ∧ b ≤ 57))
def wordM (l : List Int) : Bool := l.all okB
def keyOkM (s : ByteArray) : Bool := decide (1 ≤ s.size ∧ s.size ≤ 12) && wordM (bytesOf s)
def pairOkM (key val : ByteArray) : Bool := keyOkM key && decide (val.size ≤ 20)
theorem wordM_drop (s : ByteArray) (i : Nat) (h : i < s.size) : wordM ((bytesOf s).drop i) = (okB (bt s (i : Int)) && wordM ((bytesOf s).drop (i + 1))) := by
  rw [bt_drop s i h]
  rfl
theorem inRange_eq (a b c : Int) : impl_inRange.f a b c = some (decide (b ≤ a ∧ a ≤ c)) := by
  unfold impl_inRange.f
  by_cases h : a ≥ b
  · rw [if_pos h]
    congr 1
    exact decide_eq_decide.2 ⟨fun x => ⟨h, x⟩, fun x => x.2⟩
  · rw [if_neg h, decide_eq_false (by omega)]
end Go.Proofs.Ythkaifddpjjmaaa.P
