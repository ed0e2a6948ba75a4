/- Rows of pairs, of orders, of texts: what the program's functions over them answer, and the reference's. No condition but bounds on lengths. -/
import Derived.Test.YtgaalomhipfgjaaLists
import Derived.Test.YtgaalomhipfgjaaBytes
import Derived.Test.YtgaalomhipfgjaaRead
import Derived.Test.YtgaalomhipfgjaaHash
import Derived.Test.YtgaalomhipfgjaaKeys
import Derived.Test.YtgaalomhipfgjaaPx0
import Derived.Test.YtgaalomhipfgjaaPx15
import Derived.Test.YtgaalomhipfgjaaPx17
namespace Go.Proofs.Ytgaalomhipfgjaa.P
open Go.RowKit Go.Proofs.YtgaalomhipfgjaaW.PrintWords Go.Proofs.YtgaalomhipfgjaaW.PrintLast Go.Proofs.YtgaalomhipfgjaaW.PrintMore
set_option linter.unusedVariables false
set_option linter.unusedSimpArgs false
theorem filt_step {α : Type} (p : α → Bool) (l : List α) (i : Nat) (h : i < l.length) : (l.take (i + 1)).filter p = if p l[i] then (l.take i).filter p ++ [l[i]] else (l.take i).filter p := by
  rw [← List.take_append_getElem h, List.filter_append]
  by_cases c : p l[i] = true
  · simp [c]
  · simp [c]
theorem filt_le {α : Type} (p : α → Bool) (l : List α) (i : Nat) : ((l.take i).filter p).length ≤ l.length :=
  Nat.le_trans (List.length_filter_le _ _) (by rw [List.length_take]; omega)
/-- Whether a pair's key lies between two. -/
def btwB (a b : ByteArray) (p : S26) : Bool := !(Op.bytesLess p.f0.toList a.toList) && (decide (b.toList = []) || Op.bytesLess p.f0.toList b.toList)
theorem spec_l3In_eq (p : S26) (a b : ByteArray) : spec_l3In.f p.f0 a b = some (btwB a b p) := by
  unfold spec_l3In.f btwB
  by_cases c : Op.bytesLess p.f0.toList a.toList = true
  · simp [c]
  · by_cases c2 : b.toList = []
    · simp [c, c2]
    · simp [c, c2]
theorem impl_isBetween_eq (p : S26) (a b : ByteArray) : impl_isBetween.f p.f0 a b = some (btwB a b p) := by
  unfold impl_isBetween.f btwB
  by_cases c : Op.bytesLess p.f0.toList a.toList = true
  · simp [c]
  · by_cases c2 : b.toList = []
    · simp [c, c2]
    · simp [c, c2]
theorem impl_Between_loop (l : List S26) (hn : l.length ≤ 1000000000000) (a b : ByteArray) : ∀ d i : Nat, l.length - i = d → i ≤ l.length →
    Ev (fun k => impl_Between.l0 k a b ((l.take i).filter (btwB a b)) l (l.length : Int) (i : Int)) (l.filter (btwB a b)) := by
  intro d
  induction d with
  | zero =>
    intro i hd hi
    obtain rfl : i = l.length := by omega
    refine Ev.up (Ev.now (l.filter (btwB a b))) (fun k _ => ?_)
    simp only [impl_Between.l0]
    rw [if_neg (by omega), List.take_length]
  | succ d ih =>
    intro i hd hi
    have hil : i < l.length := by omega
    refine Ev.up (ih (i + 1) (by omega) (by omega)) (fun k hx => ?_)
    rw [filt_step (btwB a b) l i hil] at hx
    have hle := filt_le (btwB a b) l i
    simp only [impl_Between.l0]
    rw [if_pos (by omega), if_pos (by omega), if_pos (by omega), rd_26_nat l i hil, impl_isBetween_eq, Option.bind_some]
    by_cases c : btwB a b l[i] = true
    · rw [if_pos c, if_pos (by omega), w64 (by omega) (by omega)]
      rw [if_pos c] at hx
      exact hx
    · rw [if_neg c, w64 (by omega) (by omega)]
      rw [if_neg c] at hx
      exact hx
theorem impl_Between_ev (l : List S26) (hn : l.length ≤ 1000000000000) (a b : ByteArray) : Ev (fun k => impl_Between.f k l a b) (l.filter (btwB a b)) :=
  impl_Between_loop l hn a b _ 0 rfl (by omega)
end Go.Proofs.Ytgaalomhipfgjaa.P
