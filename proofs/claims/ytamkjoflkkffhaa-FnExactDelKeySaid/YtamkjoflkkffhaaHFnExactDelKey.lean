/- FnExactDelKey: the program's DelKey answers what the reference's answers, leaves its arguments as they are, and hands back memory of its own. No condition. -/
import Derived.Test.YtamkjoflkkffhaaLawFnExactDelKey
import Derived.Test.YtamkjoflkkffhaaPut
import Derived.Test.YtamkjoflkkffhaaPx7
import Derived.Test.YtamkjoflkkffhaaPx9
namespace Go.Proofs.Ytamkjoflkkffhaa.fnExactDelKey
open Go.RowKit Go.Proofs.YtamkjoflkkffhaaW.PrintWords Go.Proofs.YtamkjoflkkffhaaW.PrintLast Go.Proofs.YtamkjoflkkffhaaW.PrintMore Go.Proofs.Ytamkjoflkkffhaa.P
set_option linter.unusedVariables false
set_option linter.unusedSimpArgs false
theorem pure_holds : Pure := by
  intro l a h0 h1
  by_cases c : (a.size : Int) > 1048576
  · exact ⟨0, by unfold laws_FnExactDelKey.f; rw [if_pos c]⟩
  have hp : ∀ p ∈ l, p.f0.size ≤ 9223372036854775807 ∧ p.f1.size ≤ 9223372036854775807 := fun p hp => h0.2 p hp
  obtain ⟨K0, e0⟩ := Ev.get (szPairS_ev l 1048576 (by omega) (by omega) h0.1 hp)
  by_cases cz : szPairM l 1048576 < 0
  · refine ⟨K0, ?_⟩
    unfold laws_FnExactDelKey.f
    rw [if_neg c, e0 _ (by omega), Option.bind_some, if_pos cz]
  · obtain ⟨_, hn, hs⟩ := szPairM_ok (by omega) hp cz
    obtain ⟨m, hm⟩ : ∃ m, m = l.map cvtPair := ⟨_, rfl⟩
    have hml : m.length = l.length := by rw [hm, List.length_map]
    obtain ⟨r, hr⟩ : ∃ r, r = m.filter (dk_q a) := ⟨_, rfl⟩
    have hrl : r.length ≤ m.length := by rw [hr]; exact List.length_filter_le _ _
    obtain ⟨K1, e1⟩ := Ev.get (hm ▸ toPairS_ev l (by omega))
    obtain ⟨K2, e2⟩ := Ev.get (hr ▸ spec_DelKey_ev m (by omega) a)
    have e3 : impl_DelKey.f m a = some r := by rw [hr]; exact impl_DelKey_eq m (by omega) a
    obtain ⟨K4, e4⟩ := Ev.get (eqPairS_ev m (by omega))
    obtain ⟨K5, e5⟩ := Ev.get (eqPairS_ev r (by omega))
    obtain ⟨K6, e6⟩ := Ev.get (markPairS_ev m 1 (by omega) (by omega) (by omega))
    obtain ⟨K7, e7⟩ := Ev.get (markPairS_ev r 1 (by omega) (by omega) (by omega))
    obtain ⟨K8, e8⟩ := Ev.get (heldPairS_ev r.length 1 (by omega) (by omega) (by omega))
    refine ⟨K0 + K1 + K2 + K4 + K5 + K6 + K7 + K8 + 1, ?_⟩
    unfold laws_FnExactDelKey.f
    rw [if_neg c, e0 _ (by omega), Option.bind_some, if_neg cz, e1 _ (by omega), Option.bind_some, e2 _ (by omega), Option.bind_some, Option.bind_some, e3, Option.bind_some, e5 _ (by omega), Option.bind_some, if_pos rfl, Option.bind_some, e4 _ (by omega), Option.bind_some, if_pos rfl, e6 _ (by omega), Option.bind_some, if_neg (by simp only; omega), Option.bind_some]
    simp only [laws_FnExactDelKey.j0]
    rw [if_neg (by simp), e7 _ (by omega), Option.bind_some, e8 _ (by omega), Option.bind_some, if_neg (by omega), if_pos rfl, e1 _ (by omega), Option.bind_some, e3, Option.bind_some, e5 _ (by omega), Option.bind_some, if_pos rfl, Option.bind_some, if_neg (by omega), if_pos rfl]
end Go.Proofs.Ytamkjoflkkffhaa.fnExactDelKey
namespace Go.Proofs.Ytamkjoflkkffhaa
theorem fnExactDelKey_holds : Rows.FnExactDelKeySaid := fnExactDelKey.proved fnExactDelKey.pure_holds
#print axioms fnExactDelKey_holds
end Go.Proofs.Ytamkjoflkkffhaa
