/- The laws' reckoning of sizes. No condition but bounds on what one text may hold. -/
import Derived.Test.YthkaifddpjjmaaaPlain
namespace Go.Proofs.Ythkaifddpjjmaaa.P
open Go.RowKit Go.Proofs.YthkaifddpjjmaaaW.PrintWords Go.Proofs.YthkaifddpjjmaaaW.PrintLast Go.Proofs.YthkaifddpjjmaaaW.PrintMore
set_option linter.unusedVariables false
set_option linter.unusedSimpArgs false
/-- What is left behind two texts; -1: too much. -/
def szM2 (a b : Nat) (left : Int) : Int := if left - a < 0 then -1 else if left - a - b < 0 then -1 else left - a - b
theorem szM2_ok {a b : Nat} {left : Int} (hl : left ≤ 1048576) (ha : a ≤ 9223372036854775807) (hb : b ≤ 9223372036854775807) (h : ¬ szM2 a b left < 0) : (a : Int) + b ≤ left ∧ szM2 a b left = left - a - b := by
  unfold szM2 at h ⊢
  split at h
  · omega
  · split at h
    · omega
    · rw [if_neg (by assumption), if_neg (by assumption)]
      omega
theorem szM2_le (a b : Nat) (left : Int) (h : -1 ≤ left) : szM2 a b left ≤ left ∧ -1 ≤ szM2 a b left := by
  unfold szM2
  split
  · omega
  · split <;> omega
end Go.Proofs.Ythkaifddpjjmaaa.P
