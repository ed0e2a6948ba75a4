/- Rows of pairs in order: what the rules say of each, and how the pairs between two keys part. No condition but bounds on lengths. -/
import Derived.Test.YthkaifddpjjmaaaStr
import Derived.Test.YthkaifddpjjmaaaCols
import Derived.Test.YthkaifddpjjmaaaOks
import Derived.Test.YthkaifddpjjmaaaPx0
namespace Go.Proofs.Ythkaifddpjjmaaa.P
open Go.RowKit Go.Proofs.YthkaifddpjjmaaaW.PrintWords Go.Proofs.YthkaifddpjjmaaaW.PrintLast Go.Proofs.YthkaifddpjjmaaaW.PrintMore
set_option linter.unusedVariables false
set_option linter.unusedSimpArgs false
theorem less_irrefl : ∀ x : List UInt8, Op.bytesLess x x = false
  | [] => by simp [Op.bytesLess]
  | a :: x => by
    have h1 : ¬ a < a := fun q => by have := UInt8.lt_iff_toNat_lt.mp q; omega
    simp [Op.bytesLess, h1, less_irrefl x]
theorem less_trans : ∀ {x y z : List UInt8}, Op.bytesLess x y = true → Op.bytesLess y z = true → Op.bytesLess x z = true
  | _, _, [], _, h => by simp [Op.bytesLess] at h
  | _, [], _ :: _, h, _ => by simp [Op.bytesLess] at h
  | [], _ :: _, _ :: _, _, _ => by simp [Op.bytesLess]
  | a :: x, b :: y, c :: z, h, k => by
    simp only [Op.bytesLess, Bool.or_eq_true, Bool.and_eq_true, decide_eq_true_eq, beq_iff_eq] at h k ⊢
    have lt : ∀ p q : UInt8, p < q ↔ p.toNat < q.toNat := fun p q => UInt8.lt_iff_toNat_lt
    rcases h with h | ⟨rfl, h⟩
    · rcases k with k | ⟨rfl, k⟩
      · left; rw [lt] at h k ⊢; omega
      · left; exact h
    · rcases k with k | ⟨rfl, k⟩
      · left; exact k
      · right; exact ⟨rfl, less_trans h k⟩
theorem less_or {x y : List UInt8} (h : ¬ Op.bytesLess y x = true) : Op.bytesLess x y = true ∨ x = y := by
  have e := bytesLess_turn x y
  have hf : Op.bytesLess y x = false := by simpa using h
  rw [hf] at e
  simpa using e
/-- Not below the first: not below what is no greater. -/
theorem not_less_le {k f t : List UInt8} (hft : ¬ Op.bytesLess t f = true) (h : ¬ Op.bytesLess k t = true) : ¬ Op.bytesLess k f = true := fun hk => by
  rcases less_or hft with h1 | h1
  · exact h (less_trans hk h1)
  · exact h (h1 ▸ hk)
theorem filter_part {α : Type} (p q r : α → Bool) (l : List α) (h : ∀ x ∈ l, r x = (p x || q x) ∧ ¬ (p x = true ∧ q x = true)) : (l.filter r).length = (l.filter p).length + (l.filter q).length := by
  induction l with
  | nil => rfl
  | cons x l ih =>
    have ih := ih (fun y hy => h y (List.mem_cons_of_mem _ hy))
    obtain ⟨h1, h2⟩ := h x List.mem_cons_self
    cases hp : p x <;> cases hq : q x
    · simp [List.filter_cons, h1, hp, hq, ih]
    · simp [List.filter_cons, h1, hp, hq, ih]; omega
    · simp [List.filter_cons, h1, hp, hq, ih]; omega
    · exact absurd ⟨hp, hq⟩ h2
theorem filter_sorted {α : Type} (R : α → α → Prop) (p q r : α → Bool) : ∀ l : List α, l.Pairwise R → (∀ x ∈ l, r x = (p x || q x) ∧ ¬ (p x = true ∧ q x = true)) → (∀ x ∈ l, ∀ y ∈ l, R x y → q x = true → q y = true) → l.filter r = l.filter p ++ l.filter q := by
  intro l
  induction l with
  | nil => intro _ _ _; rfl
  | cons x l ih =>
    intro hs h hq
    have ih := ih (List.Pairwise.of_cons hs) (fun y hy => h y (List.mem_cons_of_mem _ hy)) (fun y hy z hz => hq y (List.mem_cons_of_mem _ hy) z (List.mem_cons_of_mem _ hz))
    obtain ⟨h1, h2⟩ := h x List.mem_cons_self
    cases hpx : p x <;> cases hqx : q x
    · simp [List.filter_cons, h1, hpx, hqx, ih]
    · have hn : l.filter p = [] := by
        rw [List.filter_eq_nil_iff]
        intro y hy hpy
        have h3 := hq x List.mem_cons_self y (List.mem_cons_of_mem _ hy) (List.rel_of_pairwise_cons hs hy) hqx
        exact (h y (List.mem_cons_of_mem _ hy)).2 ⟨hpy, h3⟩
      simp [List.filter_cons, h1, hpx, hqx, ih, hn]
    · simp [List.filter_cons, h1, hpx, hqx, ih]
    · exact absurd ⟨hpx, hqx⟩ h2
theorem pokM_all (l : List S26) : ∀ d i : Nat, pokM l d i = true → ∀ j : Nat, i ≤ j → j < i + d →
    pairOkM (rd_T26 l j).f0 (rd_T26 l j).f1 = true ∧ ((j : Int) > 0 → Op.bytesLess (rd_T26 l ((j : Int) - 1)).f0.toList (rd_T26 l j).f0.toList = true) := by
  intro d
  induction d with
  | zero => intro i _ j h1 h2; omega
  | succ d ih =>
    intro i h j h1 h2
    rw [pokM] at h
    split at h
    · rename_i c
      split at h
      · rename_i c2
        split at h
        · rename_i c3
          rcases Nat.lt_or_ge i j with hij | hij
          · exact ih (i + 1) h j (by omega) (by omega)
          · obtain rfl : j = i := by omega
            exact ⟨c, fun _ => c3⟩
        · cases h
      · rename_i c2
        rcases Nat.lt_or_ge i j with hij | hij
        · exact ih (i + 1) h j (by omega) (by omega)
        · obtain rfl : j = i := by omega
          exact ⟨c, fun h => absurd h c2⟩
    · cases h
theorem pokM_pairwise (l : List S26) (h : pokM l l.length 0 = true) : l.Pairwise (fun x y => Op.bytesLess x.f0.toList y.f0.toList = true) := by
  have hc : ∀ j : Nat, (hj : j + 1 < l.length) → Op.bytesLess (l[j]'(by omega)).f0.toList l[j + 1].f0.toList = true := by
    intro j hj
    have h1 := (pokM_all l l.length 0 h (j + 1) (by omega) (by omega)).2 (by omega)
    rw [show ((j + 1 : Nat) : Int) - 1 = (j : Int) by omega, rd_26_nat l j (by omega), rd_26_nat l (j + 1) hj] at h1
    exact h1
  rw [List.pairwise_iff_getElem]
  intro i j hi hj hij
  obtain ⟨d, rfl⟩ : ∃ d, j = i + d + 1 := ⟨j - i - 1, by omega⟩
  induction d with
  | zero => exact hc i hj
  | succ d ih => exact less_trans (ih (by omega) (by omega)) (hc (i + d + 1) hj)
theorem btw_part {f t : ByteArray} (hft : ¬ Op.bytesLess t.toList f.toList = true) (ht : ¬ t.toList = []) (x : S26) :
    btwB f ⟨#[]⟩ x = (btwB f t x || btwB t ⟨#[]⟩ x) ∧ ¬ (btwB f t x = true ∧ btwB t ⟨#[]⟩ x = true) := by
  have he : (⟨#[]⟩ : ByteArray).toList = [] := by simp [ByteArray.toList_eq]
  unfold btwB
  rw [he]
  have h := @not_less_le x.f0.toList f.toList t.toList hft
  cases h1 : Op.bytesLess x.f0.toList f.toList <;> cases h2 : Op.bytesLess x.f0.toList t.toList
  · simp [ht]
  · simp [ht]
  · exact absurd h1 (h (by simp [h2]))
  · simp [ht]
theorem btw_up {t : ByteArray} {x y : S26} (hxy : Op.bytesLess x.f0.toList y.f0.toList = true) (h : btwB t ⟨#[]⟩ x = true) : btwB t ⟨#[]⟩ y = true := by
  have he : (⟨#[]⟩ : ByteArray).toList = [] := by simp [ByteArray.toList_eq]
  unfold btwB at h ⊢
  rw [he] at h ⊢
  simp at h ⊢
  cases h1 : Op.bytesLess y.f0.toList t.toList
  · rfl
  · rw [less_trans hxy h1] at h; cases h
theorem btw_all (x : S26) : btwB ⟨#[]⟩ ⟨#[]⟩ x = true := by
  have he : (⟨#[]⟩ : ByteArray).toList = [] := by simp [ByteArray.toList_eq]
  have hl : ∀ l : List UInt8, Op.bytesLess l [] = false := fun l => by cases l <;> simp [Op.bytesLess]
  unfold btwB
  rw [he, hl]
  rfl
theorem btw_nil {f t : ByteArray} (ht : t.toList = []) (x : S26) : btwB f t x = btwB f ⟨#[]⟩ x := by
  have he : (⟨#[]⟩ : ByteArray).toList = [] := by simp [ByteArray.toList_eq]
  unfold btwB
  rw [ht, he]
end Go.Proofs.Ythkaifddpjjmaaa.P
