/- The way up from a pair to a root: the program's and the reference's answer what the model answers. No condition but bounds on lengths. -/
import Derived.Test.YtgaalomhipfgjaaSizes
import Derived.Test.YtgaalomhipfgjaaTree
import Derived.Test.YtgaalomhipfgjaaLists
import Derived.Test.YtgaalomhipfgjaaPx0
import Derived.Test.YtgaalomhipfgjaaPx15
namespace Go.Proofs.Ytgaalomhipfgjaa.P
open Go.RowKit Go.Proofs.YtgaalomhipfgjaaW.PrintWords Go.Proofs.YtgaalomhipfgjaaW.PrintLast Go.Proofs.YtgaalomhipfgjaaW.PrintMore
set_option linter.unusedVariables false
set_option linter.unusedSimpArgs false
theorem bytesOf_strOfNums {l : List Int} (h : By l) : bytesOf (strOfNums l) = l := by
  unfold bytesOf strOfNums
  simp only [List.map_map]
  conv => rhs; rw [← List.map_id l]
  apply List.map_congr_left
  intro x hx
  have := h x hx
  simp only [Function.comp_apply, id_eq]
  rw [UInt8.toNat_ofNat_of_lt' (by simp [UInt8.size]; omega)]
  omega
/-- The last of what is hashed. -/
def lastL (l : List (List Int)) : List Int := l.getLast?.getD []
def lastS (l : List ByteArray) : ByteArray := l.getLast?.getD ByteArray.empty
def climbR (leaf : List Int) (n i : Nat) (path : List ByteArray) : List (List Int) × Bool :=
  if h : 2 ≤ n then
    if path.length = 0 then ([], false)
    else if i < halfM n then
      if (climbR leaf (halfM n) i (path.take (path.length - 1))).2 = true then
        ((climbR leaf (halfM n) i (path.take (path.length - 1))).1 ++ [nodeB (digM (lastL (climbR leaf (halfM n) i (path.take (path.length - 1))).1)) (lastS path)], true)
      else ([], false)
    else
      if (climbR leaf (n - halfM n) (i - halfM n) (path.take (path.length - 1))).2 = true then
        ((climbR leaf (n - halfM n) (i - halfM n) (path.take (path.length - 1))).1 ++ [nodeB (lastS path) (digM (lastL (climbR leaf (n - halfM n) (i - halfM n) (path.take (path.length - 1))).1))], true)
      else ([], false)
  else ([leaf], path.length == 0)
termination_by n
decreasing_by all_goals (have := halfM_lt h; omega)
def wayR (leaf : List Int) (n i : Nat) (path : List ByteArray) : List (List Int) × Bool :=
  if (climbR leaf n i path).2 = true then ((climbR leaf n i path).1 ++ [topB n (digM (lastL (climbR leaf n i path).1))], true) else ([], false)
def checkM (leaf : List Int) (i n : Int) (path : List ByteArray) (root : ByteArray) : Bool :=
  if (1 ≤ n ∧ n ≤ 60) ∧ 0 ≤ i ∧ i < n then
    (if (wayR leaf n.toNat i.toNat path).2 = true then (digM (lastL (wayR leaf n.toNat i.toNat path).1)).toList == root.toList else false)
  else false
/-- No text is great. -/
def FewS (l : List ByteArray) : Prop := ∀ s ∈ l, s.size ≤ 10000000
/-- What is hashed: there is some, of bytes, not great. -/
def Ways (l : List (List Int)) : Prop := ∀ x ∈ l, By x ∧ x.length ≤ 100000000
theorem FewS.take {l : List ByteArray} (h : FewS l) (n : Nat) : FewS (l.take n) := fun p hp => h p (List.mem_of_mem_take hp)
theorem lastS_few {l : List ByteArray} (h : FewS l) : (lastS l).size ≤ 10000000 := by
  unfold lastS
  cases hl : l.getLast? with
  | none => show ByteArray.empty.size ≤ _; simp
  | some s => exact h s (List.mem_of_getLast? hl)
theorem lastL_ways {l : List (List Int)} (h : Ways l) : By (lastL l) ∧ (lastL l).length ≤ 100000000 := by
  unfold lastL
  cases hl : l.getLast? with
  | none => exact ⟨By.nil, by simp⟩
  | some s => exact h s (List.mem_of_getLast? hl)
theorem Ways.snoc {l : List (List Int)} (h : Ways l) {x : List Int} (hb : By x) (hl : x.length ≤ 100000000) : Ways (l ++ [x]) := fun y hy => by
  rcases List.mem_append.1 hy with h1 | h1
  · exact h y h1
  · rw [List.mem_singleton.1 h1]; exact ⟨hb, hl⟩
theorem climbR_ok {leaf : List Int} (hb : By leaf) (hl : leaf.length ≤ 100000000) : ∀ (n i : Nat) (path : List ByteArray), FewS path →
    Ways (climbR leaf n i path).1 ∧ (climbR leaf n i path).1.length ≤ n + 1 ∧ ((climbR leaf n i path).2 = true → 0 < (climbR leaf n i path).1.length) := by
  intro n
  induction n using Nat.strongRecOn with
  | _ n ih =>
    intro i path hp
    rw [climbR]
    by_cases h : 2 ≤ n
    · have hh := halfM_lt h
      rw [dif_pos h]
      by_cases h0 : path.length = 0
      · rw [if_pos h0]
        exact ⟨fun _ hx => absurd hx (List.not_mem_nil), by simp, fun e => by simp at e⟩
      · rw [if_neg h0]
        have hs := lastS_few hp
        by_cases hi : i < halfM n
        · rw [if_pos hi]
          obtain ⟨i1, i2, i3⟩ := ih (halfM n) (by omega) i _ (hp.take (path.length - 1))
          generalize climbR leaf (halfM n) i (path.take (path.length - 1)) = r at *
          by_cases hr : r.2 = true
          · rw [if_pos hr]
            have hd := digM_size (lastL r.1)
            exact ⟨i1.snoc (nodeB_by _ _) (by rw [nodeB_length]; omega), by simp; omega, fun _ => by simp⟩
          · rw [if_neg hr]
            exact ⟨fun _ hx => absurd hx (List.not_mem_nil), by simp, fun e => by simp at e⟩
        · rw [if_neg hi]
          obtain ⟨i1, i2, i3⟩ := ih (n - halfM n) (by omega) (i - halfM n) _ (hp.take (path.length - 1))
          generalize climbR leaf (n - halfM n) (i - halfM n) (path.take (path.length - 1)) = r at *
          by_cases hr : r.2 = true
          · rw [if_pos hr]
            have hd := digM_size (lastL r.1)
            exact ⟨i1.snoc (nodeB_by _ _) (by rw [nodeB_length]; omega), by simp; omega, fun _ => by simp⟩
          · rw [if_neg hr]
            exact ⟨fun _ hx => absurd hx (List.not_mem_nil), by simp, fun e => by simp at e⟩
    · rw [dif_neg h]
      exact ⟨fun x hx => by rw [List.mem_singleton.1 hx]; exact ⟨hb, hl⟩, by simp, fun _ => by simp⟩
theorem rd_last (path : List ByteArray) (h : 0 < path.length) : rdOf ByteArray.empty path (wrap64 ((path.length : Int) - 1)) = lastS path ∨ ¬ path.length ≤ 1000000000000 := by
  by_cases hb : path.length ≤ 1000000000000
  · left
    rw [w64 (by omega) (by omega), show (path.length : Int) - 1 = ((path.length - 1 : Nat) : Int) by omega, rdOf_nat path _ (by omega)]
    unfold lastS
    rw [List.getLast?_eq_getElem?, List.getElem?_eq_getElem (by omega)]
    rfl
  · exact .inr hb
theorem rd_last' (path : List ByteArray) (h : 0 < path.length) (hb : path.length ≤ 1000000000000) : rdOf ByteArray.empty path ((path.length - 1 : Nat) : Int) = lastS path := by
  rw [rdOf_nat path _ (by omega)]
  unfold lastS
  rw [List.getLast?_eq_getElem?, List.getElem?_eq_getElem (by omega)]
  rfl
theorem lastS_map {l : List (List Int)} (h : 0 < l.length) : lastS (l.map strOfNums) = strOfNums (lastL l) := by
  unfold lastS lastL
  rw [List.getLast?_map]
  cases hl : l.getLast? with
  | none => rw [List.getLast?_eq_none_iff] at hl; subst hl; simp at h
  | some s => rfl
theorem rdL2_last (l : List (List Int)) (h : 0 < l.length) : rd_L3 l ((l.length - 1 : Nat) : Int) = lastL l := by
  unfold rd_L3 lastL
  rw [List.getLast?_eq_getElem?]
  simp [List.getD_eq_getElem?_getD]
theorem wayR_ok {leaf : List Int} (hb : By leaf) (hl : leaf.length ≤ 100000000) (n i : Nat) (path : List ByteArray) (hp : FewS path) :
    Ways (wayR leaf n i path).1 ∧ (wayR leaf n i path).1.length ≤ n + 2 ∧ ((wayR leaf n i path).2 = true → 0 < (wayR leaf n i path).1.length) := by
  obtain ⟨j1, j2, j3⟩ := climbR_ok hb hl n i path hp
  unfold wayR
  generalize climbR leaf n i path = r at *
  have hd := digM_size (lastL r.1)
  have ht := topB_len n (digM (lastL r.1))
  by_cases hrt : r.2 = true
  · rw [if_pos hrt]
    exact ⟨j1.snoc (topB_by _ _) (by omega), by simp; omega, fun _ => by simp⟩
  · rw [if_neg hrt]
    exact ⟨fun _ hx => absurd hx (List.not_mem_nil), by simp, fun e => by simp at e⟩
theorem l1In_eq (a b c : Int) : spec_l1In.f a b c = some (decide (b ≤ a ∧ a ≤ c)) := by
  unfold spec_l1In.f
  by_cases h : a ≥ b
  · rw [if_pos h]
    congr 1
    by_cases h2 : a ≤ c <;> simp [h2, show b ≤ a from h]
  · rw [if_neg h]
    congr 1
    simp [show ¬ b ≤ a by omega]
end Go.Proofs.Ytgaalomhipfgjaa.P
