/- Pairs put, taken away and joined: the program's and the reference's answer what the models answer. No condition but bounds on lengths. -/
import Derived.Test.YtamkjoflkkffhaaCols
import Derived.Test.YtamkjoflkkffhaaPx0
import Derived.Test.YtamkjoflkkffhaaPx7
import Derived.Test.YtamkjoflkkffhaaPx8
namespace Go.Proofs.Ytamkjoflkkffhaa.P
open Go.RowKit Go.Proofs.YtamkjoflkkffhaaW.PrintWords Go.Proofs.YtamkjoflkkffhaaW.PrintLast Go.Proofs.YtamkjoflkkffhaaW.PrintMore
set_option linter.unusedVariables false
set_option linter.unusedSimpArgs false
theorem impl_DelKey_eq (l : List S53) (hn : l.length ≤ 1000000000000) (a : ByteArray) : impl_DelKey.f l a = some (l.filter (dk_q a)) := by
  unfold impl_DelKey.f
  rw [if_pos (by omega)]
theorem spec_DelKey_loop (l : List S53) (hn : l.length ≤ 1000000000000) (a : ByteArray) : ∀ d i : Nat, l.length - i = d → i ≤ l.length → Ev (fun k => spec_DelKey.l0 k l a ((l.take i).filter (dk_q a)) (i : Int)) (l.filter (dk_q a)) := by
  intro d
  induction d with
  | zero =>
    intro i hd hi
    refine Ev.up (Ev.now _) (fun k _ => ?_)
    simp only [spec_DelKey.l0]
    rw [if_neg (by omega), List.take_of_length_le (by omega)]
  | succ d ih =>
    intro i hd hi
    have hil : i < l.length := by omega
    have h1 := filt_step (dk_q a) l i hil
    have h2 := filt_le (dk_q a) l i
    have e : rd_T53 l (i : Int) = l[i] := by
      unfold rd_T53
      simp [List.getD_eq_getElem?_getD, hil]
    have I := ih (i + 1) (by omega) (by omega)
    rw [h1] at I
    by_cases c : l[i].f0.toList = a.toList
    · have hq : dk_q a l[i] = false := by simp [dk_q, c]
      rw [hq] at I
      refine Ev.up I (fun k hk => ?_)
      simp only [spec_DelKey.l0]
      rw [if_pos (by omega), if_pos (by omega), e, if_pos c, w64 (by omega) (by omega)]
      exact hk
    · have hq : dk_q a l[i] = true := by simp [dk_q, c]
      rw [hq] at I
      refine Ev.up I (fun k hk => ?_)
      simp only [spec_DelKey.l0]
      rw [if_pos (by omega), if_pos (by omega), e, if_neg c, if_pos (by omega), w64 (by omega) (by omega)]
      exact hk
theorem spec_DelKey_ev (l : List S53) (hn : l.length ≤ 1000000000000) (a : ByteArray) : Ev (fun k => spec_DelKey.f k l a) (l.filter (dk_q a)) :=
  (spec_DelKey_loop l hn a _ 0 rfl (by omega)).congr (fun k => rfl)
end Go.Proofs.Ytamkjoflkkffhaa.P
