/- Rows of pairs, of orders, of texts: what the program's functions over them answer, and the reference's. No condition but bounds on lengths. -/
import Derived.Test.YtifikhcpojdhmaaLists
import Derived.Test.YtifikhcpojdhmaaBytes
import Derived.Test.YtifikhcpojdhmaaRead
import Derived.Test.YtifikhcpojdhmaaHash
import Derived.Test.YtifikhcpojdhmaaKeys
import Derived.Test.YtifikhcpojdhmaaPx0
import Derived.Test.YtifikhcpojdhmaaPx2
import Derived.Test.YtifikhcpojdhmaaPx4
namespace Go.Proofs.Ytifikhcpojdhmaa.P
open Go.RowKit Go.Proofs.YtifikhcpojdhmaaW.PrintWords Go.Proofs.YtifikhcpojdhmaaW.PrintLast Go.Proofs.YtifikhcpojdhmaaW.PrintMore
set_option linter.unusedVariables false
set_option linter.unusedSimpArgs false
theorem filt_step {α : Type} (p : α → Bool) (l : List α) (i : Nat) (h : i < l.length) : (l.take (i + 1)).filter p = if p l[i] then (l.take i).filter p ++ [l[i]] else (l.take i).filter p := by
  rw [← List.take_append_getElem h, List.filter_append]
  by_cases c : p l[i] = true
  · simp [c]
  · simp [c]
theorem filt_le {α : Type} (p : α → Bool) (l : List α) (i : Nat) : ((l.take i).filter p).length ≤ l.length :=
  Nat.le_trans (List.length_filter_le _ _) (by rw [List.length_take]; omega)
/-- The value at a place, with true; without one: no text and false. -/
def atM (l : List S56) (i : Int) : ByteArray × Bool := if i < 0 then (⟨#[]⟩, false) else ((rd_T56 l i).f1, true)
theorem pairIdx_lt (l : List S56) (key : List UInt8) : ∀ i : Int, 0 ≤ i → pairIdx l key i < i + l.length ∨ pairIdx l key i < 0 := by
  induction l with
  | nil => intro i hi; right; simp [pairIdx]
  | cons p l ih =>
    intro i hi
    rw [pairIdx]
    split
    · left; simp only [List.length_cons]; omega
    · rcases ih (i + 1) (by omega) with h | h
      · left; simp only [List.length_cons]; omega
      · right; exact h
theorem pairIdx_end (l : List S56) (key : List UInt8) : pairIdx (l.drop l.length) key l.length = -1 := by
  rw [List.drop_length]; rfl
theorem spec_GetKey_loop (l : List S56) (hn : l.length ≤ 1000000000000) (a : ByteArray) : ∀ d i : Nat, l.length - i = d → i ≤ l.length →
    Ev (fun k => spec_GetKey.l0 k l a (i : Int)) (atM l (pairIdx (l.drop i) a.toList i)) := by
  intro d
  induction d with
  | zero =>
    intro i hd hi
    obtain rfl : i = l.length := by omega
    refine Ev.up (Ev.now _) (fun k _ => ?_)
    simp only [spec_GetKey.l0]
    rw [if_neg (by omega), pairIdx_end]
    rfl
  | succ d ih =>
    intro i hd hi
    have hil : i < l.length := by omega
    rw [pairIdx_step l a.toList i hil]
    by_cases c : (rd_T56 l (i : Int)).f0.toList = a.toList
    · rw [if_pos c]
      refine Ev.up (Ev.now _) (fun k _ => ?_)
      simp only [spec_GetKey.l0]
      rw [if_pos (by omega), if_pos (by omega), if_pos c, atM, if_neg (by omega)]
    · rw [if_neg c]
      refine Ev.up (ih (i + 1) (by omega) (by omega)) (fun k hx => ?_)
      simp only [spec_GetKey.l0]
      rw [if_pos (by omega), if_pos (by omega), if_neg c, w64 (by omega) (by omega)]
      exact hx
theorem spec_GetKey_ev (l : List S56) (hn : l.length ≤ 1000000000000) (a : ByteArray) : Ev (fun k => spec_GetKey.f k l a) (atM l (pairIdx l a.toList 0)) :=
  spec_GetKey_loop l hn a _ 0 rfl (by omega)
theorem impl_GetKey_eq (l : List S56) (a : ByteArray) : impl_GetKey.f l a = some (atM l (pairIdx l a.toList 0)) := by
  unfold impl_GetKey.f impl_pairAt.f atM
  rw [Option.bind_some]
  have h := pairIdx_lt l a.toList 0 (by omega)
  by_cases c : pairIdx l a.toList 0 < 0
  · rw [if_pos c, if_pos c]
  · rw [if_neg c, if_neg c, if_pos (by omega), if_pos (by omega)]
end Go.Proofs.Ytifikhcpojdhmaa.P
