/- Orders against pairs, orders written as bytes: what the program's functions answer, and the reference's. No condition but bounds on lengths. -/
import Derived.Test.YtifikhcpojdhmaaCols
import Derived.Test.YtifikhcpojdhmaaOks
import Derived.Test.YtifikhcpojdhmaaPx0
import Derived.Test.YtifikhcpojdhmaaPx3
import Derived.Test.YtifikhcpojdhmaaPx4
import Derived.Test.YtifikhcpojdhmaaPx5
namespace Go.Proofs.Ytifikhcpojdhmaa.P
open Go.RowKit Go.Proofs.YtifikhcpojdhmaaW.PrintWords Go.Proofs.YtifikhcpojdhmaaW.PrintLast Go.Proofs.YtifikhcpojdhmaaW.PrintMore
set_option linter.unusedVariables false
set_option linter.unusedSimpArgs false
/-- Whether the pairs meet the orders from a place on: orders left, place. -/
def meetsM (l : List S56) (x : List S41) : Nat → Nat → Bool
  | 0, _ => true
  | d + 1, i =>
    if (rd_T41 x i).f0 = 3 then
      if (rd_T41 x i).f2.toList = ([] : List UInt8) then
        if (atM l (pairIdx l (rd_T41 x i).f1.toList 0)).2 = true then false
        else if (atM l (pairIdx l (rd_T41 x i).f1.toList 0)).1.toList = (rd_T41 x i).f2.toList then meetsM l x d (i + 1) else false
      else if (atM l (pairIdx l (rd_T41 x i).f1.toList 0)).2 = true then
        if (atM l (pairIdx l (rd_T41 x i).f1.toList 0)).1.toList = (rd_T41 x i).f2.toList then meetsM l x d (i + 1) else false
      else false
    else meetsM l x d (i + 1)
theorem spec_Meets_loop (l : List S56) (hl : l.length ≤ 1000000000000) (x : List S41) (hn : x.length ≤ 1000000000000) : ∀ d i : Nat, x.length - i = d → i ≤ x.length →
    Ev (fun k => spec_Meets.l0 k l x (i : Int)) (meetsM l x d i) := by
  intro d
  induction d with
  | zero =>
    intro i hd hi
    refine Ev.up (Ev.now _) (fun k _ => ?_)
    simp only [spec_Meets.l0]
    rw [if_neg (by omega)]
    rfl
  | succ d ih =>
    intro i hd hi
    obtain ⟨K1, e1⟩ := Ev.get (spec_GetKey_ev l hl (rd_T41 x (i : Int)).f1)
    obtain ⟨K2, e2⟩ := Ev.get (ih (i + 1) (by omega) (by omega))
    refine ⟨K1 + K2 + 1, fun k hk => ?_⟩
    obtain ⟨k, rfl⟩ : ∃ j, k = j + 1 := ⟨k - 1, by omega⟩
    have hx := e2 k (by omega)
    show spec_Meets.l0 (k + 1) _ _ _ = _
    simp only [spec_Meets.l0]
    rw [if_pos (by omega), if_pos (by omega), e1 _ (by omega), Option.bind_some, w64 (by omega) (by omega), meetsM]
    by_cases c : (rd_T41 x (i : Int)).f0 = 3
    · rw [if_pos c, if_pos c]
      by_cases c2 : (rd_T41 x i).f2.toList = ([] : List UInt8)
      · rw [if_pos c2, if_pos c2]
        by_cases c4 : (atM l (pairIdx l (rd_T41 x i).f1.toList 0)).2 = true
        · rw [if_pos c4, if_pos c4]
        · rw [if_neg c4, if_neg c4]
          by_cases c3 : (atM l (pairIdx l (rd_T41 x i).f1.toList 0)).1.toList = (rd_T41 x i).f2.toList
          · rw [if_pos c3, if_pos c3]; exact hx
          · rw [if_neg c3, if_neg c3]
      · rw [if_neg c2, if_neg c2]
        by_cases c4 : (atM l (pairIdx l (rd_T41 x i).f1.toList 0)).2 = true
        · rw [if_pos c4, if_pos c4]
          by_cases c3 : (atM l (pairIdx l (rd_T41 x i).f1.toList 0)).1.toList = (rd_T41 x i).f2.toList
          · rw [if_pos c3, if_pos c3]; exact hx
          · rw [if_neg c3, if_neg c3]
        · rw [if_neg c4, if_neg c4]
    · rw [if_neg c, if_neg c]; exact hx
theorem spec_Meets_ev (l : List S56) (hl : l.length ≤ 1000000000000) (x : List S41) (hn : x.length ≤ 1000000000000) : Ev (fun k => spec_Meets.f k l x) (meetsM l x x.length 0) :=
  spec_Meets_loop l hl x hn _ 0 rfl (by omega)
theorem impl_Meets_loop (l : List S56) (hl : l.length ≤ 1000000000000) (x : List S41) (hn : x.length ≤ 1000000000000) : ∀ d i : Nat, x.length - i = d → i ≤ x.length →
    Ev (fun k => impl_Meets.l0 k l x (x.length : Int) (i : Int)) (meetsM l x d i) := by
  intro d
  induction d with
  | zero =>
    intro i hd hi
    refine Ev.up (Ev.now _) (fun k _ => ?_)
    simp only [impl_Meets.l0]
    rw [if_neg (by omega)]
    rfl
  | succ d ih =>
    intro i hd hi
    obtain ⟨K2, e2⟩ := Ev.get (ih (i + 1) (by omega) (by omega))
    refine ⟨K2 + 1, fun k hk => ?_⟩
    obtain ⟨k, rfl⟩ : ∃ j, k = j + 1 := ⟨k - 1, by omega⟩
    have hx := e2 k (by omega)
    show impl_Meets.l0 (k + 1) _ _ _ _ = _
    simp only [impl_Meets.l0]
    rw [if_pos (by omega), if_pos (by omega), if_pos (by omega), impl_GetKey_eq, Option.bind_some, w64 (by omega) (by omega), meetsM]
    by_cases c : (rd_T41 x (i : Int)).f0 = 3
    · rw [if_pos c, if_pos c]
      by_cases c2 : (rd_T41 x i).f2.toList = ([] : List UInt8)
      · rw [if_pos c2, if_pos c2]
        by_cases c4 : (atM l (pairIdx l (rd_T41 x i).f1.toList 0)).2 = true
        · rw [if_pos c4, if_pos c4]
        · rw [if_neg c4, if_neg c4]
          by_cases c3 : (atM l (pairIdx l (rd_T41 x i).f1.toList 0)).1.toList = (rd_T41 x i).f2.toList
          · rw [if_pos c3, if_pos c3]; exact hx
          · rw [if_neg c3, if_neg c3]
      · rw [if_neg c2, if_neg c2]
        by_cases c4 : (atM l (pairIdx l (rd_T41 x i).f1.toList 0)).2 = true
        · rw [if_pos c4, if_pos c4]
          by_cases c3 : (atM l (pairIdx l (rd_T41 x i).f1.toList 0)).1.toList = (rd_T41 x i).f2.toList
          · rw [if_pos c3, if_pos c3]; exact hx
          · rw [if_neg c3, if_neg c3]
        · rw [if_neg c4, if_neg c4]
    · rw [if_neg c, if_neg c]; exact hx
theorem impl_Meets_ev (l : List S56) (hl : l.length ≤ 1000000000000) (x : List S41) (hn : x.length ≤ 1000000000000) : Ev (fun k => impl_Meets.f k l x) (meetsM l x x.length 0) :=
  impl_Meets_loop l hl x hn _ 0 rfl (by omega)
end Go.Proofs.Ytifikhcpojdhmaa.P
