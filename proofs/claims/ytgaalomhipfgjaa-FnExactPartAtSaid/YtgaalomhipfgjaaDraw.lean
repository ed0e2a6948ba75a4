/- What is drawn from bytes: that drawing ends, and the bounds of what is drawn. No condition but bounds on lengths. -/
import Derived.Test.YtgaalomhipfgjaaPlain
namespace Go.Proofs.Ytgaalomhipfgjaa.P
open Go.RowKit Go.Proofs.YtgaalomhipfgjaaW.PrintWords Go.Proofs.YtgaalomhipfgjaaW.PrintLast Go.Proofs.YtgaalomhipfgjaaW.PrintMore
set_option linter.unusedVariables false
set_option linter.unusedSimpArgs false
theorem and255 (x : Int) : 0 ≤ Go.bits .and .i64 x 255 ∧ Go.bits .and .i64 x 255 < 256 := by
  have h : ((BitVec.ofInt 64 x) &&& (BitVec.ofInt 64 255)).toNat ≤ 255 := by
    rw [BitVec.toNat_and]
    exact Nat.le_trans Nat.and_le_right (by decide)
  have e : Go.bits .and .i64 x 255 = (((BitVec.ofInt 64 x) &&& (BitVec.ofInt 64 255)).toNat : Int) := by
    show IntKind.i64.wrap (((BitVec.ofInt 64 x) &&& (BitVec.ofInt 64 255)).toNat : Int) = _
    exact i64_wrap_small (by omega) (by omega)
  rw [e]
  omega
/-- A drawing's state: its bytes and its place in them. -/
def St (s : List Int) (p : Int) : Prop := s.length ≤ 1000000000 ∧ 0 ≤ p ∧ p ≤ s.length
theorem rd_mem {l : List Int} {i : Int} (h0 : 0 ≤ i) (h1 : i < l.length) : rd l i ∈ l := by
  obtain ⟨n, rfl⟩ := Int.eq_ofNat_of_zero_le h0
  rw [rd_nat l n (by omega)]
  exact List.getElem_mem _
theorem rdOf_mem {l : List ByteArray} {i : Int} (h0 : 0 ≤ i) (h1 : i < l.length) : rdOf ByteArray.empty l i ∈ l := by
  obtain ⟨n, rfl⟩ := Int.eq_ofNat_of_zero_le h0
  have h : n < l.length := by omega
  have e : rdOf ByteArray.empty l (n : Int) = l[n] := by
    unfold rdOf
    simp [List.getD_eq_getElem?_getD, h]
  rw [e]
  exact List.getElem_mem _
end Go.Proofs.Ytgaalomhipfgjaa.P
