/- Rows of pairs, of orders, of texts: what the program's functions over them answer, and the reference's. No condition but bounds on lengths. -/
import Derived.Test.YtamkjoflkkffhaaLists
import Derived.Test.YtamkjoflkkffhaaBytes
import Derived.Test.YtamkjoflkkffhaaRead
import Derived.Test.YtamkjoflkkffhaaHash
import Derived.Test.YtamkjoflkkffhaaKeys
import Derived.Test.YtamkjoflkkffhaaPx0
import Derived.Test.YtamkjoflkkffhaaPx11
import Derived.Test.YtamkjoflkkffhaaPx17
namespace Go.Proofs.Ytamkjoflkkffhaa.P
open Go.RowKit Go.Proofs.YtamkjoflkkffhaaW.PrintWords Go.Proofs.YtamkjoflkkffhaaW.PrintLast Go.Proofs.YtamkjoflkkffhaaW.PrintMore
set_option linter.unusedVariables false
set_option linter.unusedSimpArgs false
theorem filt_step {α : Type} (p : α → Bool) (l : List α) (i : Nat) (h : i < l.length) : (l.take (i + 1)).filter p = if p l[i] then (l.take i).filter p ++ [l[i]] else (l.take i).filter p := by
  rw [← List.take_append_getElem h, List.filter_append]
  by_cases c : p l[i] = true
  · simp [c]
  · simp [c]
theorem filt_le {α : Type} (p : α → Bool) (l : List α) (i : Nat) : ((l.take i).filter p).length ≤ l.length :=
  Nat.le_trans (List.length_filter_le _ _) (by rw [List.length_take]; omega)
/-- Whether a pair's key lies between two. -/
def btwB (a b : ByteArray) (p : S53) : Bool := !(Op.bytesLess p.f0.toList a.toList) && (decide (b.toList = []) || Op.bytesLess p.f0.toList b.toList)
/-- The value at a place, with true; without one: no text and false. -/
def atM (l : List S53) (i : Int) : ByteArray × Bool := if i < 0 then (⟨#[]⟩, false) else ((rd_T53 l i).f1, true)
theorem pairIdx_lt (l : List S53) (key : List UInt8) : ∀ i : Int, 0 ≤ i → pairIdx l key i < i + l.length ∨ pairIdx l key i < 0 := by
  induction l with
  | nil => intro i hi; right; simp [pairIdx]
  | cons p l ih =>
    intro i hi
    rw [pairIdx]
    split
    · left; simp only [List.length_cons]; omega
    · rcases ih (i + 1) (by omega) with h | h
      · left; simp only [List.length_cons]; omega
      · right; exact h
theorem pairIdx_end (l : List S53) (key : List UInt8) : pairIdx (l.drop l.length) key l.length = -1 := by
  rw [List.drop_length]; rfl
theorem impl_GetKey_eq (l : List S53) (a : ByteArray) : impl_GetKey.f l a = some (atM l (pairIdx l a.toList 0)) := by
  unfold impl_GetKey.f impl_pairAt.f atM
  rw [Option.bind_some]
  have h := pairIdx_lt l a.toList 0 (by omega)
  by_cases c : pairIdx l a.toList 0 < 0
  · rw [if_pos c, if_pos c]
  · rw [if_neg c, if_neg c, if_pos (by omega), if_pos (by omega)]
end Go.Proofs.Ytamkjoflkkffhaa.P
