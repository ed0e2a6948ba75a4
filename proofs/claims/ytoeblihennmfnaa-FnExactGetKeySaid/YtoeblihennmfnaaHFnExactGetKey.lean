/- FnExactGetKey: the program's GetKey answers what the reference's answers and leaves its argument as it is. No condition. -/
import Derived.Test.YtoeblihennmfnaaLawFnExactGetKey
import Derived.Test.YtoeblihennmfnaaCols
import Derived.Test.YtoeblihennmfnaaPx3
import Derived.Test.YtoeblihennmfnaaPx5
namespace Go.Proofs.Ytoeblihennmfnaa.fnExactGetKey
open Go.RowKit Go.Proofs.YtoeblihennmfnaaW.PrintWords Go.Proofs.YtoeblihennmfnaaW.PrintLast Go.Proofs.YtoeblihennmfnaaW.PrintMore Go.Proofs.Ytoeblihennmfnaa.P
set_option linter.unusedVariables false
set_option linter.unusedSimpArgs false
theorem pure_holds : Pure := by
  intro l a h0 h1
  by_cases c : (a.size : Int) > 1048576
  · exact ⟨0, by unfold laws_FnExactGetKey.f; rw [if_pos c]⟩
  have hp : ∀ p ∈ l, p.f0.size ≤ 9223372036854775807 ∧ p.f1.size ≤ 9223372036854775807 := fun p hp => h0.2 p hp
  obtain ⟨K0, e0⟩ := Ev.get (szPairS_ev l 1048576 (by omega) (by omega) h0.1 hp)
  by_cases cz : szPairM l 1048576 < 0
  · refine ⟨K0, ?_⟩
    unfold laws_FnExactGetKey.f
    rw [if_neg c, e0 _ (by omega), Option.bind_some, if_pos cz]
  · obtain ⟨_, hn, hs⟩ := szPairM_ok (by omega) hp cz
    obtain ⟨m, hm⟩ : ∃ m, m = l.map cvtPair := ⟨_, rfl⟩
    have hml : m.length = l.length := by rw [hm, List.length_map]
    obtain ⟨r, hr⟩ : ∃ r, r = atM m (pairIdx m a.toList 0) := ⟨_, rfl⟩
    obtain ⟨K1, e1⟩ := Ev.get (hm ▸ toPairS_ev l (by omega))
    obtain ⟨K2, e2⟩ := Ev.get (hr ▸ spec_GetKey_ev m (by omega) a)
    have e3 : impl_GetKey.f m a = some r := hr ▸ impl_GetKey_eq m a
    obtain ⟨K4, e4⟩ := Ev.get (eqPairS_ev m (by omega))
    refine ⟨K0 + K1 + K2 + K4 + 1, ?_⟩
    unfold laws_FnExactGetKey.f
    rw [if_neg c, e0 _ (by omega), Option.bind_some, if_neg cz, e1 _ (by omega), Option.bind_some, e2 _ (by omega), Option.bind_some, Option.bind_some, e3, Option.bind_some, if_pos rfl]
    simp only [laws_FnExactGetKey.j0]
    rw [if_neg (by simp), e1 _ (by omega), Option.bind_some, e4 _ (by omega), Option.bind_some, if_pos rfl]
end Go.Proofs.Ytoeblihennmfnaa.fnExactGetKey
namespace Go.Proofs.Ytoeblihennmfnaa
theorem fnExactGetKey_holds : Rows.FnExactGetKeySaid := fnExactGetKey.proved fnExactGetKey.pure_holds
#print axioms fnExactGetKey_holds
end Go.Proofs.Ytoeblihennmfnaa
