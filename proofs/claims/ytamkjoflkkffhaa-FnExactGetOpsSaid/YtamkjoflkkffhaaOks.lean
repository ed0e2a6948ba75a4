/- Rows of pairs and of orders: whether they keep the rules, the program's answer and the reference's. No condition but bounds on lengths. -/
import Derived.Test.YtamkjoflkkffhaaLists
import Derived.Test.YtamkjoflkkffhaaKeys
import Derived.Test.YtamkjoflkkffhaaPx0
import Derived.Test.YtamkjoflkkffhaaPx10
import Derived.Test.YtamkjoflkkffhaaPx11
import Derived.Test.YtamkjoflkkffhaaPx37
import Derived.Test.YtamkjoflkkffhaaPx38
namespace Go.Proofs.Ytamkjoflkkffhaa.P
open Go.RowKit Go.Proofs.YtamkjoflkkffhaaW.PrintWords Go.Proofs.YtamkjoflkkffhaaW.PrintLast Go.Proofs.YtamkjoflkkffhaaW.PrintMore
set_option linter.unusedVariables false
set_option linter.unusedSimpArgs false
/-- Whether the pairs from a place on keep the rules: pairs left, place. -/
def pokM (l : List S53) : Nat → Nat → Bool
  | 0, _ => decide ((l.length : Int) ≤ 60)
  | d + 1, i =>
    if pairOkM (rd_T53 l i).f0 (rd_T53 l i).f1 = true then
      if (i : Int) > 0 then
        if Op.bytesLess (rd_T53 l ((i : Int) - 1)).f0.toList (rd_T53 l i).f0.toList = true then pokM l d (i + 1) else false
      else pokM l d (i + 1)
    else false
/-- Whether one order keeps the rules. -/
def opOkM (o : Int) (a b : ByteArray) : Bool :=
  if 1 ≤ o ∧ o ≤ 3 then (if o = 2 ∧ ¬ b.toList = [] then false else if keyOkM a = true then decide ((b.size : Int) ≤ 20) else false) else false
theorem spec_l7Op_ev (o : Int) (a b : ByteArray) (hs : a.size ≤ 140737488355328) : Ev (fun k => spec_l7Op.f k o a b) (opOkM o a b) := by
  obtain ⟨K, e⟩ := Ev.get (spec_KeyOk_ev a hs)
  refine ⟨K, fun k hk => ?_⟩
  show spec_l7Op.f k o a b = _
  unfold spec_l7Op.f opOkM
  rw [l1In_eq, Option.bind_some]
  by_cases c : 1 ≤ o ∧ o ≤ 3
  · rw [if_pos (by simpa using c), if_pos c]
    by_cases c2 : o = 2
    · rw [if_pos c2]
      by_cases c3 : b.toList = []
      · rw [if_pos c3, if_neg (by simp [c3]), e _ hk, Option.bind_some]
        split <;> rfl
      · rw [if_neg c3, if_pos ⟨c2, c3⟩]
    · rw [if_neg c2, if_neg (fun h => c2 h.1), e _ hk, Option.bind_some]
      split <;> rfl
  · rw [if_neg (by simpa using c), if_neg c]
theorem impl_opOk_ev (o : Int) (a b : ByteArray) (hs : a.size ≤ 140737488355328) : Ev (fun k => impl_opOk.f k o a b) (opOkM o a b) := by
  obtain ⟨K, e⟩ := Ev.get (impl_KeyOk_ev a hs)
  have hj : ∀ k, K ≤ k → ∀ x : Bool, x = decide (o = 1 ∨ o = 3) → impl_opOk.j0 (k + 1) o x o a b = some (opOkM o a b) := by
    intro k hk x hx
    simp only [impl_opOk.j0]
    unfold opOkM
    rw [e _ hk]
    by_cases c : o = 1 ∨ o = 3
    · rw [if_pos (by rw [hx]; simpa using c), if_pos (by omega), if_neg (by omega), Option.bind_some]
      split <;> rfl
    · rw [if_neg (by rw [hx]; simpa using c)]
      by_cases c2 : o = 2
      · subst c2
        have hz : b.toList = [] → b.size = 0 := fun c3 => by
          have h := bytesOf_length b
          rw [bytesOf, ← ByteArray.toList_eq, c3] at h
          simpa using h.symm
        by_cases c4 : keyOkM a = true <;> by_cases c3 : b.toList = []
        · simp [c4, c3, hz c3]
        · simp [c4, c3]
        · simp [c4, c3]
        · simp [c4, c3]
      · rw [if_neg c2, if_neg (by omega)]
  refine ⟨K + 1, fun k hk => ?_⟩
  obtain ⟨k, rfl⟩ : ∃ j, k = j + 1 := ⟨k - 1, by omega⟩
  show impl_opOk.f (k + 1) o a b = _
  unfold impl_opOk.f
  by_cases c : o = 1
  · rw [if_pos c]; exact hj k (by omega) _ (by simp [c])
  · rw [if_neg c]; exact hj k (by omega) _ (by by_cases c3 : o = 3 <;> simp [c, c3])
/-- Whether the orders from a place on keep the rules: orders left, place. -/
def ookM (l : List S84) : Nat → Nat → Bool
  | 0, _ => decide (1 ≤ (l.length : Int) ∧ (l.length : Int) ≤ 8)
  | d + 1, i =>
    if opOkM (rd_T84 l i).f0 (rd_T84 l i).f1 (rd_T84 l i).f2 = true then
      if (i : Int) > 0 then
        if Op.bytesLess (rd_T84 l ((i : Int) - 1)).f1.toList (rd_T84 l i).f1.toList = true then ookM l d (i + 1) else false
      else ookM l d (i + 1)
    else false
theorem spec_OpsOk_loop (l : List S84) (hn : l.length ≤ 1000000000000) (hs : ∀ p ∈ l, p.f1.size ≤ 140737488355328) : ∀ d i : Nat, l.length - i = d → i ≤ l.length →
    Ev (fun k => spec_OpsOk.l0 k l (i : Int)) (ookM l d i) := by
  intro d
  induction d with
  | zero =>
    intro i hd hi
    refine Ev.up (Ev.now _) (fun k _ => ?_)
    simp only [spec_OpsOk.l0]
    rw [if_neg (by omega), l1In_eq]
    rfl
  | succ d ih =>
    intro i hd hi
    have hil : i < l.length := by omega
    have hsz : (rd_T84 l (i : Int)).f1.size ≤ 140737488355328 := by rw [rd_84_nat l i hil]; exact hs _ (List.getElem_mem hil)
    obtain ⟨K1, e1⟩ := Ev.get (spec_l7Op_ev (rd_T84 l (i : Int)).f0 (rd_T84 l (i : Int)).f1 (rd_T84 l (i : Int)).f2 hsz)
    obtain ⟨K2, e2⟩ := Ev.get (ih (i + 1) (by omega) (by omega))
    refine ⟨K1 + K2 + 1, fun k hk => ?_⟩
    obtain ⟨k, rfl⟩ : ∃ j, k = j + 1 := ⟨k - 1, by omega⟩
    have hx := e2 k (by omega)
    show spec_OpsOk.l0 (k + 1) _ _ = _
    simp only [spec_OpsOk.l0]
    rw [if_pos (by omega), if_pos (by omega), e1 _ (by omega), Option.bind_some, ookM]
    by_cases c : opOkM (rd_T84 l (i : Int)).f0 (rd_T84 l (i : Int)).f1 (rd_T84 l (i : Int)).f2 = true
    · rw [if_pos c, if_pos c]
      by_cases c2 : (i : Int) > 0
      · rw [if_pos c2, if_pos c2, w64 (by omega) (by omega), w64 (by omega) (by omega), if_pos (by omega), if_pos (by omega)]
        by_cases c3 : Op.bytesLess (rd_T84 l ((i : Int) - 1)).f1.toList (rd_T84 l i).f1.toList = true
        · rw [if_pos c3, if_pos c3]; exact hx
        · rw [if_neg c3, if_neg c3]
      · rw [if_neg c2, if_neg c2, w64 (by omega) (by omega)]; exact hx
    · rw [if_neg c, if_neg c]
theorem spec_OpsOk_ev (l : List S84) (hn : l.length ≤ 1000000000000) (hs : ∀ p ∈ l, p.f1.size ≤ 140737488355328) : Ev (fun k => spec_OpsOk.f k l) (ookM l l.length 0) :=
  spec_OpsOk_loop l hn hs _ 0 rfl (by omega)
theorem impl_OpsOk_loop (l : List S84) (hn : l.length ≤ 1000000000000) (hs : ∀ p ∈ l, p.f1.size ≤ 140737488355328) : ∀ d i : Nat, l.length - i = d → i ≤ l.length →
    Ev (fun k => impl_OpsOk.l0 k l l (l.length : Int) (i : Int)) (ookM l d i) := by
  intro d
  induction d with
  | zero =>
    intro i hd hi
    refine Ev.up (Ev.now _) (fun k _ => ?_)
    simp only [impl_OpsOk.l0]
    rw [if_neg (by omega), inRange_eq]
    rfl
  | succ d ih =>
    intro i hd hi
    have hil : i < l.length := by omega
    have hsz : (rd_T84 l (i : Int)).f1.size ≤ 140737488355328 := by rw [rd_84_nat l i hil]; exact hs _ (List.getElem_mem hil)
    obtain ⟨K1, e1⟩ := Ev.get (impl_opOk_ev (rd_T84 l (i : Int)).f0 (rd_T84 l (i : Int)).f1 (rd_T84 l (i : Int)).f2 hsz)
    obtain ⟨K2, e2⟩ := Ev.get (ih (i + 1) (by omega) (by omega))
    refine ⟨K1 + K2 + 1, fun k hk => ?_⟩
    obtain ⟨k, rfl⟩ : ∃ j, k = j + 1 := ⟨k - 1, by omega⟩
    have hx := e2 k (by omega)
    show impl_OpsOk.l0 (k + 1) _ _ _ _ = _
    simp only [impl_OpsOk.l0]
    rw [if_pos (by omega), if_pos (by omega), if_pos (by omega), e1 _ (by omega), Option.bind_some, ookM]
    by_cases c : opOkM (rd_T84 l (i : Int)).f0 (rd_T84 l (i : Int)).f1 (rd_T84 l (i : Int)).f2 = true
    · rw [if_pos c, if_pos c]
      by_cases c2 : (i : Int) > 0
      · rw [if_pos c2, if_pos c2, w64 (by omega) (by omega), w64 (by omega) (by omega), if_pos (by omega), if_pos (by omega)]
        by_cases c3 : Op.bytesLess (rd_T84 l ((i : Int) - 1)).f1.toList (rd_T84 l i).f1.toList = true
        · rw [if_pos c3, if_pos c3]; exact hx
        · rw [if_neg c3, if_neg c3]
      · rw [if_neg c2, if_neg c2, w64 (by omega) (by omega)]; exact hx
    · rw [if_neg c, if_neg c]
theorem impl_OpsOk_ev (l : List S84) (hn : l.length ≤ 1000000000000) (hs : ∀ p ∈ l, p.f1.size ≤ 140737488355328) : Ev (fun k => impl_OpsOk.f k l) (ookM l l.length 0) :=
  impl_OpsOk_loop l hn hs _ 0 rfl (by omega)
end Go.Proofs.Ytamkjoflkkffhaa.P
