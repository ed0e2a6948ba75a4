/- Hex digits: the program's and the reference's readers answer what the model answers. No condition but bounds on lengths. -/
import Derived.Test.YtbelaenekbflfaaHash
namespace Go.Proofs.Ytbelaenekbflfaa.P
open Go.RowKit Go.Proofs.YtbelaenekbflfaaW.PrintWords Go.Proofs.YtbelaenekbflfaaW.PrintLast Go.Proofs.YtbelaenekbflfaaW.PrintMore
set_option linter.unusedVariables false
set_option linter.unusedSimpArgs false
/-- A digit's number; -1: it is none. -/
def hexV (c : Int) : Int := if 48 ≤ c ∧ c ≤ 57 then c - 48 else if 97 ≤ c ∧ c ≤ 102 then c - 87 else -1
theorem hexV_range (c : Int) : -1 ≤ hexV c ∧ hexV c ≤ 15 := by unfold hexV; (repeat' split) <;> omega
/-- What pairs of digits say. -/
def unhexM : List Int → List Int → ByteArray × Bool
  | a :: b :: r, acc => if hexV a < 0 ∨ hexV b < 0 then (⟨#[]⟩, false) else unhexM r (acc ++ [hexV a * 16 + hexV b])
  | [_], _ => (⟨#[]⟩, false)
  | [], acc => (strOfNums acc, true)
theorem unhexM_odd : ∀ (n : Nat) (l acc : List Int), l.length = 2 * n + 1 → unhexM l acc = (⟨#[]⟩, false) := by
  intro n
  induction n with
  | zero =>
    intro l acc h
    match l, h with
    | [x], _ => rfl
  | succ n ih =>
    intro l acc h
    match l, h with
    | a :: b :: r, h =>
      rw [unhexM]
      split
      · rfl
      · exact ih r _ (by simp at h; omega)
end Go.Proofs.Ytbelaenekbflfaa.P
