/- Rows of pairs and of orders: whether they keep the rules, the program's answer and the reference's. No condition but bounds on lengths. -/
import Derived.Test.YthkaifddpjjmaaaLists
import Derived.Test.YthkaifddpjjmaaaKeys
import Derived.Test.YthkaifddpjjmaaaPx0
import Derived.Test.YthkaifddpjjmaaaPx13
import Derived.Test.YthkaifddpjjmaaaPx8
namespace Go.Proofs.Ythkaifddpjjmaaa.P
open Go.RowKit Go.Proofs.YthkaifddpjjmaaaW.PrintWords Go.Proofs.YthkaifddpjjmaaaW.PrintLast Go.Proofs.YthkaifddpjjmaaaW.PrintMore
set_option linter.unusedVariables false
set_option linter.unusedSimpArgs false
/-- Whether the pairs from a place on keep the rules: pairs left, place. -/
def pokM (l : List S26) : Nat → Nat → Bool
  | 0, _ => decide ((l.length : Int) ≤ 60)
  | d + 1, i =>
    if pairOkM (rd_T26 l i).f0 (rd_T26 l i).f1 = true then
      if (i : Int) > 0 then
        if Op.bytesLess (rd_T26 l ((i : Int) - 1)).f0.toList (rd_T26 l i).f0.toList = true then pokM l d (i + 1) else false
      else pokM l d (i + 1)
    else false
theorem spec_PairsOk_loop (l : List S26) (hn : l.length ≤ 1000000000000) (hs : ∀ p ∈ l, p.f0.size ≤ 140737488355328) : ∀ d i : Nat, l.length - i = d → i ≤ l.length →
    Ev (fun k => spec_PairsOk.l0 k l (i : Int)) (pokM l d i) := by
  intro d
  induction d with
  | zero =>
    intro i hd hi
    refine Ev.up (Ev.now _) (fun k _ => ?_)
    simp only [spec_PairsOk.l0]
    rw [if_neg (by omega)]
    rfl
  | succ d ih =>
    intro i hd hi
    have hil : i < l.length := by omega
    have hsz : (rd_T26 l (i : Int)).f0.size ≤ 140737488355328 := by rw [rd_26_nat l i hil]; exact hs _ (List.getElem_mem hil)
    obtain ⟨K1, e1⟩ := Ev.get (spec_PairOk_ev (rd_T26 l (i : Int)).f0 (rd_T26 l (i : Int)).f1 hsz)
    obtain ⟨K2, e2⟩ := Ev.get (ih (i + 1) (by omega) (by omega))
    refine ⟨K1 + K2 + 1, fun k hk => ?_⟩
    obtain ⟨k, rfl⟩ : ∃ j, k = j + 1 := ⟨k - 1, by omega⟩
    have hx := e2 k (by omega)
    show spec_PairsOk.l0 (k + 1) _ _ = _
    simp only [spec_PairsOk.l0]
    rw [if_pos (by omega), if_pos (by omega), e1 _ (by omega), Option.bind_some, pokM]
    by_cases c : pairOkM (rd_T26 l (i : Int)).f0 (rd_T26 l (i : Int)).f1 = true
    · rw [if_pos c, if_pos c]
      by_cases c2 : (i : Int) > 0
      · rw [if_pos c2, if_pos c2, w64 (by omega) (by omega), w64 (by omega) (by omega), if_pos (by omega), if_pos (by omega)]
        by_cases c3 : Op.bytesLess (rd_T26 l ((i : Int) - 1)).f0.toList (rd_T26 l i).f0.toList = true
        · rw [if_pos c3, if_pos c3]; exact hx
        · rw [if_neg c3, if_neg c3]
      · rw [if_neg c2, if_neg c2, w64 (by omega) (by omega)]; exact hx
    · rw [if_neg c, if_neg c]
theorem spec_PairsOk_ev (l : List S26) (hn : l.length ≤ 1000000000000) (hs : ∀ p ∈ l, p.f0.size ≤ 140737488355328) : Ev (fun k => spec_PairsOk.f k l) (pokM l l.length 0) :=
  spec_PairsOk_loop l hn hs _ 0 rfl (by omega)
theorem impl_PairsOk_loop (l : List S26) (hn : l.length ≤ 1000000000000) (hs : ∀ p ∈ l, p.f0.size ≤ 140737488355328) : ∀ d i : Nat, l.length - i = d → i ≤ l.length →
    Ev (fun k => impl_PairsOk.l0 k l l (l.length : Int) (i : Int)) (pokM l d i) := by
  intro d
  induction d with
  | zero =>
    intro i hd hi
    refine Ev.up (Ev.now _) (fun k _ => ?_)
    simp only [impl_PairsOk.l0]
    rw [if_neg (by omega)]
    rfl
  | succ d ih =>
    intro i hd hi
    have hil : i < l.length := by omega
    have hsz : (rd_T26 l (i : Int)).f0.size ≤ 140737488355328 := by rw [rd_26_nat l i hil]; exact hs _ (List.getElem_mem hil)
    obtain ⟨K1, e1⟩ := Ev.get (impl_PairOk_ev (rd_T26 l (i : Int)).f0 (rd_T26 l (i : Int)).f1 hsz)
    obtain ⟨K2, e2⟩ := Ev.get (ih (i + 1) (by omega) (by omega))
    refine ⟨K1 + K2 + 1, fun k hk => ?_⟩
    obtain ⟨k, rfl⟩ : ∃ j, k = j + 1 := ⟨k - 1, by omega⟩
    have hx := e2 k (by omega)
    show impl_PairsOk.l0 (k + 1) _ _ _ _ = _
    simp only [impl_PairsOk.l0]
    rw [if_pos (by omega), if_pos (by omega), if_pos (by omega), e1 _ (by omega), Option.bind_some, pokM]
    by_cases c : pairOkM (rd_T26 l (i : Int)).f0 (rd_T26 l (i : Int)).f1 = true
    · rw [if_pos c, if_pos c]
      by_cases c2 : (i : Int) > 0
      · rw [if_pos c2, if_pos c2, w64 (by omega) (by omega), w64 (by omega) (by omega), if_pos (by omega), if_pos (by omega)]
        by_cases c3 : Op.bytesLess (rd_T26 l ((i : Int) - 1)).f0.toList (rd_T26 l i).f0.toList = true
        · rw [if_pos c3, if_pos c3]; exact hx
        · rw [if_neg c3, if_neg c3]
      · rw [if_neg c2, if_neg c2, w64 (by omega) (by omega)]; exact hx
    · rw [if_neg c, if_neg c]
theorem impl_PairsOk_ev (l : List S26) (hn : l.length ≤ 1000000000000) (hs : ∀ p ∈ l, p.f0.size ≤ 140737488355328) : Ev (fun k => impl_PairsOk.f k l) (pokM l l.length 0) :=
  impl_PairsOk_loop l hn hs _ 0 rfl (by omega)
end Go.Proofs.Ythkaifddpjjmaaa.P
