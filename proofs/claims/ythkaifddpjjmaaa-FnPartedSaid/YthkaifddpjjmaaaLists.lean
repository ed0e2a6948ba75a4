/- The laws' helpers over rows of pairs, of orders, of texts: copies, comparisons, marks, what is held, sizes. No condition but bounds on lengths. -/
import Derived.Test.YthkaifddpjjmaaaHelp
import Derived.Test.YthkaifddpjjmaaaSizes
import Derived.Test.YthkaifddpjjmaaaPx0
namespace Go.Proofs.Ythkaifddpjjmaaa.P
open Go.RowKit Go.Proofs.YthkaifddpjjmaaaW.PrintWords Go.Proofs.YthkaifddpjjmaaaW.PrintLast Go.Proofs.YthkaifddpjjmaaaW.PrintMore
set_option linter.unusedVariables false
set_option linter.unusedSimpArgs false
/-- What a marked row holds: el of its first number, its next, .. -/
def marksG {α : Type} (el : Int → α) (s : Int) : Int → Nat → List α
  | _, 0 => []
  | k, n + 1 => el k :: marksG el s (k + s) n
theorem marksG_length {α : Type} (el : Int → α) (s : Int) (n : Nat) : ∀ k : Int, (marksG el s k n).length = n := by
  induction n with
  | zero => intro k; rfl
  | succ n ih => intro k; simp [marksG, ih]
theorem marksG_get {α : Type} (el : Int → α) (s : Int) (n : Nat) : ∀ (k : Int) (i : Nat), i < n → (marksG el s k n)[i]? = some (el (k + s * i)) := by
  induction n with
  | zero => intro k i h; omega
  | succ n ih =>
    intro k i h
    cases i with
    | zero => simp [marksG]
    | succ i =>
      simp only [marksG, List.getElem?_cons_succ]
      rw [ih (k + s) i (by omega), show k + s + s * (i : Int) = k + s * ((i + 1 : Nat) : Int) by rw [Int.natCast_add, Int.mul_add]; simp; omega]
theorem marksG_succ {α : Type} (el : Int → α) (s : Int) (n : Nat) : ∀ k : Int, marksG el s k (n + 1) = marksG el s k n ++ [el (k + s * n)] := by
  induction n with
  | zero => intro k; simp [marksG]
  | succ n ih =>
    intro k
    rw [marksG, ih (k + s), marksG, List.cons_append, show k + s + s * (n : Int) = k + s * ((n + 1 : Nat) : Int) by rw [Int.natCast_add, Int.mul_add]; simp; omega]
theorem marksG_set {α : Type} (el : Int → α) (s : Int) (l : List α) (k : Int) (i : Nat) (h : i < l.length) : (marksG el s k i ++ l.drop i).set i (el (k + s * i)) = marksG el s k (i + 1) ++ l.drop (i + 1) := by
  rw [List.set_append, if_neg (by rw [marksG_length]; omega), marksG_length, Nat.sub_self, List.drop_eq_getElem_cons h, List.set_cons_zero, marksG_succ, List.append_assoc]
  rfl
theorem marksG_cut {α : Type} (el : Int → α) (s : Int) (l : List α) (k : Int) (i : Nat) (h : i ≤ l.length) : (marksG el s k i ++ l.drop i).length = l.length := by
  rw [List.length_append, marksG_length, List.length_drop]
  omega
theorem rdOf_nat (l : List ByteArray) (i : Nat) (h : i < l.length) : rdOf ByteArray.empty l (i : Int) = l[i] := by
  unfold rdOf
  simp [List.getD_eq_getElem?_getD, h]
theorem size_le_sum {l : List ByteArray} {s : ByteArray} (h : s ∈ l) : s.size ≤ (l.map ByteArray.size).sum := by
  induction l with
  | nil => cases h
  | cons x l ih =>
    rcases List.mem_cons.1 h with rfl | h
    · simp
    · have := ih h; simp; omega
theorem rd_26_nat (l : List S26) (i : Nat) (h : i < l.length) : rd_T26 l (i : Int) = l[i] := by
  unfold rd_T26
  simp [List.getD_eq_getElem?_getD, h]
theorem rd_26_set (l : List S26) (i : Nat) (h : i < l.length) (a : S26) : rd_T26 (l.set i a) (i : Int) = a := by
  rw [rd_26_nat _ i (by simpa using h)]
  simp
end Go.Proofs.Ythkaifddpjjmaaa.P
