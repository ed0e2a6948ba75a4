/- FnExactOpsOk: the program's OpsOk answers what the reference's answers and leaves its argument as it is. No condition. -/
import Derived.Test.YtoeblihennmfnaaLawFnExactOpsOk
import Derived.Test.YtoeblihennmfnaaOks
import Derived.Test.YtoeblihennmfnaaPx26
namespace Go.Proofs.Ytoeblihennmfnaa.fnExactOpsOk
open Go.RowKit Go.Proofs.YtoeblihennmfnaaW.PrintWords Go.Proofs.YtoeblihennmfnaaW.PrintLast Go.Proofs.YtoeblihennmfnaaW.PrintMore Go.Proofs.Ytoeblihennmfnaa.P
set_option linter.unusedVariables false
set_option linter.unusedSimpArgs false
theorem pure_holds : Pure := by
  intro l h0
  have hp : ∀ p ∈ l, p.f1.size ≤ 9223372036854775807 ∧ p.f2.size ≤ 9223372036854775807 := fun p hp => (h0.2 p hp).2
  obtain ⟨K0, e0⟩ := Ev.get (szOpS_ev l 1048576 (by omega) (by omega) h0.1 hp)
  by_cases cz : szOpM l 1048576 < 0
  · refine ⟨K0, ?_⟩
    unfold laws_FnExactOpsOk.f
    rw [e0 _ (by omega), Option.bind_some, if_pos cz]
  · obtain ⟨_, hn, hs⟩ := szOpM_ok (by omega) hp cz
    obtain ⟨m, hm⟩ : ∃ m, m = l.map cvtOp := ⟨_, rfl⟩
    have hml : m.length = l.length := by rw [hm, List.length_map]
    have hms : ∀ p ∈ m, p.f1.size ≤ 140737488355328 := fun o ho => by rw [hm] at ho; obtain ⟨q, hq, rfl⟩ := List.mem_map.1 ho; have := hs q hq; show q.f1.size ≤ _; omega
    obtain ⟨r, hr⟩ : ∃ r, r = ookM m m.length 0 := ⟨_, rfl⟩
    obtain ⟨K1, e1⟩ := Ev.get (hm ▸ toOpS_ev l (by omega))
    obtain ⟨K2, e2⟩ := Ev.get (hr ▸ spec_OpsOk_ev m (by omega) hms)
    obtain ⟨K3, e3⟩ := Ev.get (hr ▸ impl_OpsOk_ev m (by omega) hms)
    obtain ⟨K4, e4⟩ := Ev.get (eqOpS_ev m (by omega))
    refine ⟨K0 + K1 + K2 + K3 + K4, ?_⟩
    unfold laws_FnExactOpsOk.f
    rw [e0 _ (by omega), Option.bind_some, if_neg cz, e1 _ (by omega), Option.bind_some, e2 _ (by omega), Option.bind_some, Option.bind_some, e3 _ (by omega), Option.bind_some, if_neg (by simp), Option.bind_some, e4 _ (by omega), Option.bind_some, if_pos rfl]
end Go.Proofs.Ytoeblihennmfnaa.fnExactOpsOk
namespace Go.Proofs.Ytoeblihennmfnaa
theorem fnExactOpsOk_holds : Rows.FnExactOpsOkSaid := fnExactOpsOk.proved fnExactOpsOk.pure_holds
#print axioms fnExactOpsOk_holds
end Go.Proofs.Ytoeblihennmfnaa
