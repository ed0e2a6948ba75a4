/- FnExactPairsOk: the program's PairsOk answers what the reference's answers and leaves its argument as it is. No condition. -/
import Derived.Test.YtoeblihennmfnaaLawFnExactPairsOk
import Derived.Test.YtoeblihennmfnaaOks
import Derived.Test.YtoeblihennmfnaaPx15
namespace Go.Proofs.Ytoeblihennmfnaa.fnExactPairsOk
open Go.RowKit Go.Proofs.YtoeblihennmfnaaW.PrintWords Go.Proofs.YtoeblihennmfnaaW.PrintLast Go.Proofs.YtoeblihennmfnaaW.PrintMore Go.Proofs.Ytoeblihennmfnaa.P
set_option linter.unusedVariables false
set_option linter.unusedSimpArgs false
theorem pure_holds : Pure := by
  intro l h0
  have hp : ∀ p ∈ l, p.f0.size ≤ 9223372036854775807 ∧ p.f1.size ≤ 9223372036854775807 := fun p hp => h0.2 p hp
  obtain ⟨K0, e0⟩ := Ev.get (szPairS_ev l 1048576 (by omega) (by omega) h0.1 hp)
  by_cases cz : szPairM l 1048576 < 0
  · refine ⟨K0, ?_⟩
    unfold laws_FnExactPairsOk.f
    rw [e0 _ (by omega), Option.bind_some, if_pos cz]
  · obtain ⟨_, hn, hs⟩ := szPairM_ok (by omega) hp cz
    obtain ⟨m, hm⟩ : ∃ m, m = l.map cvtPair := ⟨_, rfl⟩
    have hml : m.length = l.length := by rw [hm, List.length_map]
    have hms : ∀ p ∈ m, p.f0.size ≤ 140737488355328 := fun o ho => by rw [hm] at ho; obtain ⟨q, hq, rfl⟩ := List.mem_map.1 ho; have := hs q hq; show q.f0.size ≤ _; omega
    obtain ⟨r, hr⟩ : ∃ r, r = pokM m m.length 0 := ⟨_, rfl⟩
    obtain ⟨K1, e1⟩ := Ev.get (hm ▸ toPairS_ev l (by omega))
    obtain ⟨K2, e2⟩ := Ev.get (hr ▸ spec_PairsOk_ev m (by omega) hms)
    obtain ⟨K3, e3⟩ := Ev.get (hr ▸ impl_PairsOk_ev m (by omega) hms)
    obtain ⟨K4, e4⟩ := Ev.get (eqPairS_ev m (by omega))
    refine ⟨K0 + K1 + K2 + K3 + K4, ?_⟩
    unfold laws_FnExactPairsOk.f
    rw [e0 _ (by omega), Option.bind_some, if_neg cz, e1 _ (by omega), Option.bind_some, e2 _ (by omega), Option.bind_some, Option.bind_some, e3 _ (by omega), Option.bind_some, if_neg (by simp), Option.bind_some, e4 _ (by omega), Option.bind_some, if_pos rfl]
end Go.Proofs.Ytoeblihennmfnaa.fnExactPairsOk
namespace Go.Proofs.Ytoeblihennmfnaa
theorem fnExactPairsOk_holds : Rows.FnExactPairsOkSaid := fnExactPairsOk.proved fnExactPairsOk.pure_holds
#print axioms fnExactPairsOk_holds
end Go.Proofs.Ytoeblihennmfnaa
