/- PartAt: the program's and the reference's answer what the model answers. No condition but bounds on lengths. -/
import Derived.Test.YthkaifddpjjmaaaOks
import Derived.Test.YthkaifddpjjmaaaPath
import Derived.Test.YthkaifddpjjmaaaClash
import Derived.Test.YthkaifddpjjmaaaPx0
namespace Go.Proofs.Ythkaifddpjjmaaa.P
open Go.RowKit Go.Proofs.YthkaifddpjjmaaaW.PrintWords Go.Proofs.YthkaifddpjjmaaaW.PrintLast Go.Proofs.YthkaifddpjjmaaaW.PrintMore
set_option linter.unusedVariables false
set_option linter.unusedSimpArgs false
/-- How long the way from the i-th of n is. -/
def depthM (n i : Nat) : Nat := if h : 2 ≤ n then (if i < halfM n then depthM (halfM n) i else depthM (n - halfM n) (i - halfM n)) + 1 else 0
termination_by n
decreasing_by all_goals (have := halfM_lt h; omega)
theorem climbR_depth (leaf : List Int) : ∀ (n i : Nat) (path : List ByteArray), ((climbR leaf n i path).2 = true ↔ path.length = depthM n i) ∧ ((climbR leaf n i path).2 = true → (climbR leaf n i path).1.length = depthM n i + 1) := by
  intro n
  induction n using Nat.strongRecOn with
  | _ n ih =>
    intro i path
    rw [climbR, depthM]
    by_cases h : 2 ≤ n
    · have hh := halfM_lt h
      rw [dif_pos h, dif_pos h]
      by_cases h0 : path.length = 0
      · rw [if_pos h0]
        simp [h0]
      · rw [if_neg h0]
        have ht : (path.take (path.length - 1)).length = path.length - 1 := by rw [List.length_take]; omega
        by_cases hi : i < halfM n
        · rw [if_pos hi, if_pos hi]
          obtain ⟨i1, i2⟩ := ih (halfM n) (by omega) i (path.take (path.length - 1))
          rw [ht] at i1
          generalize climbR leaf (halfM n) i (path.take (path.length - 1)) = r at *
          by_cases hr : r.2 = true
          · rw [if_pos hr]
            have := i1.1 hr
            have := i2 hr
            simp
            omega
          · rw [if_neg hr]
            have : ¬ path.length - 1 = depthM (halfM n) i := fun e => hr (i1.2 e)
            simp
            omega
        · rw [if_neg hi, if_neg hi]
          obtain ⟨i1, i2⟩ := ih (n - halfM n) (by omega) (i - halfM n) (path.take (path.length - 1))
          rw [ht] at i1
          generalize climbR leaf (n - halfM n) (i - halfM n) (path.take (path.length - 1)) = r at *
          by_cases hr : r.2 = true
          · rw [if_pos hr]
            have := i1.1 hr
            have := i2 hr
            simp
            omega
          · rw [if_neg hr]
            have : ¬ path.length - 1 = depthM (n - halfM n) (i - halfM n) := fun e => hr (i1.2 e)
            simp
            omega
    · rw [dif_neg h, dif_neg h]
      simp
theorem wayR_depth (leaf : List Int) (n i : Nat) (path : List ByteArray) : ((wayR leaf n i path).2 = true ↔ path.length = depthM n i) ∧ ((wayR leaf n i path).2 = true → (wayR leaf n i path).1.length = depthM n i + 2) := by
  obtain ⟨i1, i2⟩ := climbR_depth leaf n i path
  unfold wayR
  generalize climbR leaf n i path = r at *
  by_cases hr : r.2 = true
  · rw [if_pos hr]
    have := i1.1 hr
    have := i2 hr
    simp
    omega
  · rw [if_neg hr]
    have : ¬ path.length = depthM n i := fun e => hr (i1.2 e)
    simp
    omega
theorem pathM_depth : ∀ (n : Nat) (l : List S26) (i : Nat), l.length = n → (pathM l i).length = depthM n i := by
  intro n
  induction n using Nat.strongRecOn with
  | _ n ih =>
    intro l i hl
    rw [pathM, depthM]
    by_cases h : 2 ≤ n
    · have hh := halfM_lt h
      rw [dif_pos h, dif_pos (by omega), hl]
      by_cases hi : i < halfM n
      · rw [if_pos hi, if_pos hi, List.length_append, ih (halfM n) (by omega) _ i (by rw [List.length_take]; omega)]
        rfl
      · rw [if_neg hi, if_neg hi, List.length_append, ih (n - halfM n) (by omega) _ (i - halfM n) (by rw [List.length_drop]; omega)]
        rfl
    · rw [dif_neg h, dif_neg (by omega)]
      rfl
theorem pathM_few : ∀ (n : Nat) (l : List S26) (i : Nat), l.length = n → FewS (pathM l i) := by
  intro n
  induction n using Nat.strongRecOn with
  | _ n ih =>
    intro l i hl
    rw [pathM]
    by_cases h : 2 ≤ l.length
    · have hh := halfM_lt h
      rw [dif_pos h]
      by_cases hi : i < halfM l.length
      · rw [if_pos hi]
        intro s hs
        rcases List.mem_append.1 hs with h1 | h1
        · exact ih (halfM n) (by rw [← hl]; omega) _ i (by rw [List.length_take, ← hl]; omega) s h1
        · rw [List.mem_singleton.1 h1, innerM_size]; omega
      · rw [if_neg hi]
        intro s hs
        rcases List.mem_append.1 hs with h1 | h1
        · exact ih (n - halfM n) (by rw [← hl]; omega) _ _ (by rw [List.length_drop, ← hl]) s h1
        · rw [List.mem_singleton.1 h1, innerM_size]; omega
    · rw [dif_neg h]
      intro s hs
      exact absurd hs List.not_mem_nil
/-- The last of the way beside what the root of l is of. -/
def tailM (l : List S26) (A : List (List Int)) : ByteArray × ByteArray × Bool :=
  (strOfNums (lastL A), strOfNums (topB l.length (innerM l)), clashM (strOfNums (lastL A)) (strOfNums (topB l.length (innerM l))) 32)
def scanT (l : List S26) (A B : List (List Int)) : Nat → Nat → ByteArray × ByteArray × Bool
  | 0, _ => tailM l A
  | d + 1, k => if clashM (strOfNums (A.getD k [])) (strOfNums (B.getD k [])) 32 = true then (strOfNums (A.getD k []), strOfNums (B.getD k []), true) else scanT l A B d (k + 1)
/-- The way of the i-th itself. -/
def ownWay (l : List S26) (i : Int) (n : Nat) : List (List Int) × Bool := wayR (leafB (rd_T26 l i).f0 (rd_T26 l i).f1) n i.toNat (pathM l i.toNat)
def partM (l : List S26) (a b : ByteArray) (i n : Int) (path : List ByteArray) : ByteArray × ByteArray × Bool :=
  if ((1 ≤ n ∧ n ≤ 60) ∧ 0 ≤ i ∧ i < n) ∧ pokM l l.length 0 = true then
    if (wayR (leafB a b) n.toNat i.toNat path).2 = true then
      if (l.length : Int) = n then scanT l (wayR (leafB a b) n.toNat i.toNat path).1 (ownWay l i n.toNat).1 (wayR (leafB a b) n.toNat i.toNat path).1.length 0
      else tailM l (wayR (leafB a b) n.toNat i.toNat path).1
    else (⟨#[]⟩, ⟨#[]⟩, false)
  else (⟨#[]⟩, ⟨#[]⟩, false)
/-- No key and no value is great. -/
def FewP (l : List S26) : Prop := ∀ p ∈ l, p.f0.size ≤ 10000000 ∧ p.f1.size ≤ 10000000
theorem FewP.few {l : List S26} (h : FewP l) : Few l := fun p hp => ⟨by have := (h p hp).1; omega, by have := (h p hp).2; omega⟩
theorem FewP.rd {l : List S26} (h : FewP l) {i : Int} (h0 : 0 ≤ i) (h1 : i < l.length) : (rd_T26 l i).f0.size ≤ 10000000 ∧ (rd_T26 l i).f1.size ≤ 10000000 := by
  have : rd_T26 l i ∈ l := by
    unfold rd_T26
    rw [List.getD_eq_getElem?_getD, List.getElem?_eq_getElem (by omega)]
    exact List.getElem_mem _
  exact h _ this
theorem getD_ways {l : List (List Int)} (h : Ways l) {k : Nat} (hk : k < l.length) : By (l.getD k []) ∧ (l.getD k []).length ≤ 100000000 := by
  have : l.getD k [] ∈ l := by
    rw [List.getD_eq_getElem?_getD, List.getElem?_eq_getElem hk]
    exact List.getElem_mem _
  exact h _ this
theorem tailM_top (l : List S26) : (topB l.length (innerM l)).length ≤ 38 := by
  have h1 := topB_len l.length (innerM l)
  have h2 := innerM_size l
  omega
end Go.Proofs.Ythkaifddpjjmaaa.P
