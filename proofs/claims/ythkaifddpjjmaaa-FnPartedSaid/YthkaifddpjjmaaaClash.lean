/- Clashes: the program's and the reference's answer what the model answers. No condition but bounds on lengths. -/
import Derived.Laws.Strings
import Derived.Test.YthkaifddpjjmaaaTree
import Derived.Test.YthkaifddpjjmaaaDraw
import Derived.Test.YthkaifddpjjmaaaPx11
import Derived.Test.YthkaifddpjjmaaaPx14
namespace Go.Proofs.Ythkaifddpjjmaaa.P
open Go.RowKit Go.Proofs.YthkaifddpjjmaaaW.PrintWords Go.Proofs.YthkaifddpjjmaaaW.PrintLast Go.Proofs.YthkaifddpjjmaaaW.PrintMore
set_option linter.unusedVariables false
set_option linter.unusedSimpArgs false
def clashM (a b : ByteArray) (k : Int) : Bool :=
  if a.toList = b.toList then false else if 0 ≤ k ∧ k ≤ 32 then ((digM (bytesOf a)).extract 0 k.toNat).toList == ((digM (bytesOf b)).extract 0 k.toNat).toList else false
theorem clashM_comm (a b : ByteArray) (k : Int) : clashM a b k = clashM b a k := by
  unfold clashM
  by_cases h : a.toList = b.toList
  · rw [if_pos h, if_pos h.symm]
  · rw [if_neg h, if_neg (fun e : b.toList = a.toList => h e.symm)]
    by_cases c : 0 ≤ k ∧ k ≤ 32
    · rw [if_pos c, if_pos c]; exact Bool.beq_comm
    · rw [if_neg c, if_neg c]
theorem clashM_self (a : ByteArray) (k : Int) : clashM a a k = false := by
  unfold clashM
  rw [if_pos rfl]
theorem clashM_less {a b : ByteArray} {k : Int} (h : clashM a b k = true) (h0 : k ≠ 0) : clashM a b (k - 1) = true := by
  unfold clashM at h ⊢
  by_cases c : a.toList = b.toList
  · rw [if_pos c] at h; cases h
  · rw [if_neg c] at h ⊢
    by_cases c2 : 0 ≤ k ∧ k ≤ 32
    · rw [if_pos c2, beq_iff_eq, ByteArray.toList_eq, ByteArray.toList_eq] at h
      rw [if_pos (by omega), beq_iff_eq, ByteArray.toList_eq, ByteArray.toList_eq]
      simp only [ByteArray.data_extract, Array.toList_extract, List.extract_eq_take_drop, Nat.sub_zero, List.drop_zero] at h ⊢
      have e := congrArg (List.take (k - 1).toNat) h
      rw [List.take_take, List.take_take, Nat.min_eq_left (by omega)] at e
      exact e
    · rw [if_neg c2] at h; cases h
theorem impl_IsClash_ev (a b : ByteArray) (k : Int) (ha : a.size ≤ 1000000000000) (hb : b.size ≤ 1000000000000) : Ev (fun q => impl_IsClash.f q a b k) (clashM a b k) := by
  obtain ⟨K1, e1⟩ := Ev.get (impl_Digest_ev (bytesOf a) (by rw [bytesOf_length]; omega))
  obtain ⟨K2, e2⟩ := Ev.get (impl_Digest_ev (bytesOf b) (by rw [bytesOf_length]; omega))
  refine ⟨K1 + K2, fun q hq => ?_⟩
  show impl_IsClash.f q a b k = _
  unfold impl_IsClash.f clashM
  by_cases c : a.toList = b.toList
  · rw [if_pos c, if_pos c]
  · rw [if_neg c, if_neg c]
    by_cases c2 : 0 ≤ k ∧ k ≤ 32
    · rw [if_pos c2, if_pos c2, if_pos ⟨by omega, by omega⟩, e1 _ (by omega), Option.bind_some, e2 _ (by omega), Option.bind_some, if_pos ⟨digM_size _, digM_size _⟩]
    · rw [if_neg c2, if_neg c2]
theorem spec_IsClash_ev (a b : ByteArray) (k : Int) (ha : a.size ≤ 1000000000000) (hb : b.size ≤ 1000000000000) : Ev (fun q => spec_IsClash.f q a b k) (clashM a b k) := by
  obtain ⟨K1, e1⟩ := Ev.get (spec_Digest_ev (bytesOf a) (By.bytesOf a) (by rw [bytesOf_length]; omega))
  obtain ⟨K2, e2⟩ := Ev.get (spec_Digest_ev (bytesOf b) (By.bytesOf b) (by rw [bytesOf_length]; omega))
  refine ⟨K1 + K2, fun q hq => ?_⟩
  show spec_IsClash.f q a b k = _
  unfold spec_IsClash.f clashM
  by_cases c : a.toList = b.toList
  · rw [if_pos c, if_pos c]
  · rw [if_neg c, if_neg c]
    by_cases c2 : 0 ≤ k ∧ k ≤ 32
    · rw [if_pos c2, if_pos c2, if_pos ⟨by omega, by omega⟩, e1 _ (by omega), Option.bind_some, e2 _ (by omega), Option.bind_some, if_pos ⟨digM_size _, digM_size _⟩]
    · rw [if_neg c2, if_neg c2]
end Go.Proofs.Ythkaifddpjjmaaa.P
