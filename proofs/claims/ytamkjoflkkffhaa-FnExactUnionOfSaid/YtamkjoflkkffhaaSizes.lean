/- The laws' reckoning of sizes. No condition but bounds on what one text may hold. -/
import Derived.Test.YtamkjoflkkffhaaPlain
import Derived.Test.YtamkjoflkkffhaaPx2
namespace Go.Proofs.Ytamkjoflkkffhaa.P
open Go.RowKit Go.Proofs.YtamkjoflkkffhaaW.PrintWords Go.Proofs.YtamkjoflkkffhaaW.PrintLast Go.Proofs.YtamkjoflkkffhaaW.PrintMore
set_option linter.unusedVariables false
set_option linter.unusedSimpArgs false
/-- What is left behind two texts; -1: too much. -/
def szM2 (a b : Nat) (left : Int) : Int := if left - a < 0 then -1 else if left - a - b < 0 then -1 else left - a - b
theorem szM2_ok {a b : Nat} {left : Int} (hl : left ≤ 1048576) (ha : a ≤ 9223372036854775807) (hb : b ≤ 9223372036854775807) (h : ¬ szM2 a b left < 0) : (a : Int) + b ≤ left ∧ szM2 a b left = left - a - b := by
  unfold szM2 at h ⊢
  split at h
  · omega
  · split at h
    · omega
    · rw [if_neg (by assumption), if_neg (by assumption)]
      omega
theorem szM2_le (a b : Nat) (left : Int) (h : -1 ≤ left) : szM2 a b left ≤ left ∧ -1 ≤ szM2 a b left := by
  unfold szM2
  split
  · omega
  · split <;> omega
theorem szPair_eq (a b : ByteArray) (left : Int) (h0 : -1 ≤ left) (h1 : left ≤ 1048576) (ha : a.size ≤ 9223372036854775807) (hb : b.size ≤ 9223372036854775807) : laws_szPair.f a b left = some (szM2 a.size b.size left) := by
  unfold laws_szPair.f szM2
  rw [w64 (x := left - (a.size : Int)) (by omega) (by omega)]
  by_cases c : left - (a.size : Int) < 0
  · rw [if_pos c, if_pos c]
  · rw [if_neg c, if_neg c, w64 (by omega) (by omega)]
    by_cases c2 : left - (a.size : Int) - (b.size : Int) < 0
    · rw [if_pos c2, if_pos c2]
    · rw [if_neg c2, if_neg c2]
end Go.Proofs.Ytamkjoflkkffhaa.P
