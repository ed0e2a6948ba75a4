/- Pairs put, taken away and joined: the program's and the reference's answer what the models answer. No condition but bounds on lengths. -/
import Derived.Test.YtamkjoflkkffhaaCols
import Derived.Test.YtamkjoflkkffhaaPx0
import Derived.Test.YtamkjoflkkffhaaPx10
import Derived.Test.YtamkjoflkkffhaaPx11
import Derived.Test.YtamkjoflkkffhaaPx12
import Derived.Test.YtamkjoflkkffhaaPx18
import Derived.Test.YtamkjoflkkffhaaPx6
import Derived.Test.YtamkjoflkkffhaaPx7
namespace Go.Proofs.Ytamkjoflkkffhaa.P
open Go.RowKit Go.Proofs.YtamkjoflkkffhaaW.PrintWords Go.Proofs.YtamkjoflkkffhaaW.PrintLast Go.Proofs.YtamkjoflkkffhaaW.PrintMore
set_option linter.unusedVariables false
set_option linter.unusedSimpArgs false
theorem impl_DelKey_eq (l : List S53) (hn : l.length ≤ 1000000000000) (a : ByteArray) : impl_DelKey.f l a = some (l.filter (dk_q a)) := by
  unfold impl_DelKey.f
  rw [if_pos (by omega)]
theorem pk_M_len (l : List S53) (a b : ByteArray) : l.length ≤ (pk_M l a b).length ∧ (pk_M l a b).length ≤ l.length + 1 := by
  unfold pk_M
  have := pk_at_le a.toList l
  split
  · simp; omega
  · simp
theorem spec_PutKey_l1 (l : List S53) (hn : l.length ≤ 1000000000000) (a b : ByteArray) : ∀ d i : Nat, l.length - i = d → i ≤ l.length → pk_at a.toList l = i + pk_at a.toList (l.drop i) →
    Ev (fun k => spec_PutKey.l1 k l a b (i : Int)) (l.take (pk_at a.toList l) ++ [⟨a, b⟩] ++ l.drop (pk_at a.toList l)) := by
  intro d
  induction d with
  | zero =>
    intro i hd hi hp
    obtain rfl : i = l.length := by omega
    rw [List.drop_length] at hp
    have hp2 : pk_at a.toList l = l.length := by rw [hp]; rfl
    refine Ev.up (Ev.now _) (fun k _ => ?_)
    simp only [spec_PutKey.l1, Option.bind_some]
    rw [hp2, if_neg (by omega), if_pos (by omega), if_pos (by omega), Int.toNat_natCast, if_pos (by simp; omega), if_pos (by simp; omega), if_pos (by simp; omega), List.nil_append]
  | succ d ih =>
    intro i hd hi hp
    have hil : i < l.length := by omega
    have hst := pk_at_step l a.toList i hil
    by_cases c : Op.bytesLess a.toList (rd_T53 l (i : Int)).f0.toList = true
    · rw [if_pos c] at hst
      have hp2 : pk_at a.toList l = i := by omega
      refine Ev.up (Ev.now _) (fun k _ => ?_)
      simp only [spec_PutKey.l1, Option.bind_some]
      rw [hp2, if_pos (by omega), if_pos (by omega), if_pos c, if_pos (by omega), Int.toNat_natCast, if_pos (by simp; omega), if_pos (by simp; omega), if_pos (by simp; omega), List.nil_append]
    · rw [if_neg c] at hst
      refine Ev.up (ih (i + 1) (by omega) (by omega) (by omega)) (fun k hk => ?_)
      simp only [spec_PutKey.l1]
      rw [if_pos (by omega), if_pos (by omega), if_neg c, w64 (by omega) (by omega)]
      exact hk
theorem spec_PutKey_l0 (l : List S53) (hn : l.length ≤ 1000000000000) (a b : ByteArray) : ∀ d i : Nat, l.length - i = d → i ≤ l.length → pairIdx l a.toList 0 = pairIdx (l.drop i) a.toList i →
    Ev (fun k => spec_PutKey.l0 k l a b l (i : Int)) (pk_M l a b) := by
  intro d
  induction d with
  | zero =>
    intro i hd hi hp
    obtain rfl : i = l.length := by omega
    have hp2 : pairIdx l a.toList 0 = -1 := by rw [hp, List.drop_length]; rfl
    have hM : pk_M l a b = l.take (pk_at a.toList l) ++ [⟨a, b⟩] ++ l.drop (pk_at a.toList l) := by unfold pk_M; rw [hp2, if_pos (by omega)]
    rw [hM]
    refine Ev.up (spec_PutKey_l1 l hn a b _ 0 rfl (by omega) (by rw [Nat.zero_add]; rfl)) (fun k hk => ?_)
    simp only [spec_PutKey.l0]
    rw [if_neg (by omega)]
    exact hk
  | succ d ih =>
    intro i hd hi hp
    have hil : i < l.length := by omega
    have hst := pairIdx_step l a.toList i hil
    by_cases c : (rd_T53 l (i : Int)).f0.toList = a.toList
    · rw [if_pos c] at hst
      have hp2 : pairIdx l a.toList 0 = (i : Int) := by rw [hp, hst]
      have hM : pk_M l a b = l.set i ⟨(rd_T53 l (i : Int)).f0, b⟩ := by unfold pk_M; rw [hp2, if_neg (by omega), Int.toNat_natCast]
      rw [hM]
      refine Ev.up (Ev.now _) (fun k _ => ?_)
      simp only [spec_PutKey.l0]
      rw [if_pos (by omega), if_pos (by omega), if_pos c, Int.toNat_natCast]
    · rw [if_neg c] at hst
      refine Ev.up (ih (i + 1) (by omega) (by omega) (by rw [hp, hst])) (fun k hk => ?_)
      simp only [spec_PutKey.l0]
      rw [if_pos (by omega), if_pos (by omega), if_neg c, w64 (by omega) (by omega)]
      exact hk
theorem spec_PutKey_ev (l : List S53) (hn : l.length ≤ 1000000000000) (a b : ByteArray) : Ev (fun k => spec_PutKey.f k l a b) (pk_M l a b) := by
  refine (spec_PutKey_l0 l hn a b _ 0 rfl (by omega) rfl).congr (fun k => ?_)
  unfold spec_PutKey.f
  rw [Option.bind_some, if_pos (by simp only [List.length_nil]; omega), List.nil_append]
  rfl
theorem impl_putKey_eq (l : List S53) (hn : l.length ≤ 1000000000000) (a b : ByteArray) : impl_putKey.f l a b = some (pk_M l a b) := by
  unfold impl_putKey.f
  rw [if_pos (by omega)]
theorem impl_PutKey_eq (l : List S53) (hn : l.length ≤ 1000000000000) (a b : ByteArray) : impl_PutKey.f l a b = some (pk_M l a b) := by
  unfold impl_PutKey.f impl_Pair_47.f
  rw [if_pos (by omega), Option.bind_some, impl_putKey_eq l hn, Option.bind_some]
end Go.Proofs.Ytamkjoflkkffhaa.P
