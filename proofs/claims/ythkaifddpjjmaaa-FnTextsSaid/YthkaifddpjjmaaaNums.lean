/- Numbers and texts written and read back: what was written is read, a cut number is not. No condition but bounds on lengths. -/
import Derived.Test.YthkaifddpjjmaaaBytes
import Derived.Test.YthkaifddpjjmaaaRead
namespace Go.Proofs.Ythkaifddpjjmaaa.P
open Go.RowKit Go.Proofs.YthkaifddpjjmaaaW.PrintWords Go.Proofs.YthkaifddpjjmaaaW.PrintLast Go.Proofs.YthkaifddpjjmaaaW.PrintMore
set_option linter.unusedVariables false
set_option linter.unusedSimpArgs false
theorem encN_ne (n : Nat) : encN n ≠ [] := fun h => by have := encN_pos n; rw [h] at this; simp at this
theorem encN_cut (n : Nat) : ∀ x ∈ (encN n).dropLast, 128 ≤ x := by
  induction n using Nat.strongRecOn with
  | _ n ih =>
    intro x hx
    by_cases c : 127 < n
    · rw [encN_big c, List.dropLast_cons_of_ne_nil (encN_ne _)] at hx
      rcases List.mem_cons.1 hx with rfl | hx
      · omega
      · exact ih (n / 128) (by omega) x hx
    · rw [encN_small (by omega)] at hx
      simp at hx
theorem gnM_run (b : List Int) : ∀ (f p : Nat) (n : Int) (i : Nat), (∀ j : Nat, p ≤ j → j < b.length → 128 ≤ rd b (j : Int)) → gnM b f p n i = (0, 0, false) := by
  intro f
  induction f with
  | zero => intro p n i _; rfl
  | succ f ih =>
    intro p n i h
    unfold gnM
    by_cases c : p < b.length
    · have := h p (Nat.le_refl _) c
      rw [if_pos c, if_neg (by omega)]
      exact ih _ _ _ (fun j h1 h2 => h j (by omega) h2)
    · rw [if_neg c]
/-- A number whose last byte is cut off is not read. -/
theorem getNumM_cut (b : List Int) (n : Int) : getNumM ((putNumM b n).take ((putNumM b n).length - 1)) (b.length : Int) = (0, 0, false) := by
  have e : (putNumM b n).take ((putNumM b n).length - 1) = b ++ (encN (clampN n)).dropLast := by
    rw [← List.dropLast_eq_take, putNumM, List.dropLast_append_of_ne_nil (encN_ne _)]
  rw [e]
  unfold getNumM
  rw [if_pos (by omega), Int.toNat_natCast]
  refine gnM_run _ _ _ _ _ (fun j h1 h2 => ?_)
  rw [rd_nat _ j h2, List.getElem_append_right h1]
  exact encN_cut _ _ (List.getElem_mem _)
theorem getNumM_putNumM (b : List Int) (n : Int) : getNumM (putNumM b n) (b.length : Int) = ((clampN n : Int), ((putNumM b n).length : Int), true) := by
  have h := getNumM_put b [] (clampN n) (clampN_le n)
  rw [List.append_nil] at h
  exact h
theorem strOfNums_bytesOf (s : ByteArray) : strOfNums (bytesOf s) = s := by
  unfold strOfNums bytesOf
  rw [List.map_map]
  have e : ((fun n : Int => UInt8.ofNat n.toNat) ∘ fun b : UInt8 => (b.toNat : Int)) = id := by
    funext b
    simp
  rw [e, List.map_id]
theorem getTextM_putTextM (b : List Int) (s : ByteArray) (hs : s.size ≤ 1000000000) : getTextM (putTextM b s) (b.length : Int) = (s, ((putTextM b s).length : Int), true) := by
  have hc : clampN (s.size : Int) = s.size := by unfold clampN; rw [if_neg (by omega), if_neg (by omega)]; omega
  have h := getNumM_put b (bytesOf s) s.size hs
  have e : putTextM b s = b ++ encN s.size ++ bytesOf s := by rw [putTextM, putNumM, hc]
  have hl : ((b ++ encN s.size ++ bytesOf s).length : Int) = ((b ++ encN s.size).length : Int) + s.size := by simp only [List.length_append, bytesOf_length]; omega
  rw [e]
  generalize b ++ encN s.size = X at h hl ⊢
  unfold getTextM
  rw [h]
  simp only
  rw [if_pos trivial, if_neg (by omega), show ((X.length : Int) + (s.size : Int)).toNat = (X ++ bytesOf s).length by rw [List.length_append, bytesOf_length]; omega, List.take_length, Int.toNat_natCast, List.drop_left, strOfNums_bytesOf, hl]
end Go.Proofs.Ythkaifddpjjmaaa.P
