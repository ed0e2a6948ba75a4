/- FnExactPutOps: the program's PutOps answers what the reference's answers, leaves its arguments as they are, and hands back memory of its own. No condition. -/
import Derived.Test.YtifikhcpojdhmaaLawFnExactPutOps
import Derived.Test.YtifikhcpojdhmaaMeets
import Derived.Test.YtifikhcpojdhmaaPx27
namespace Go.Proofs.Ytifikhcpojdhmaa.fnExactPutOps
open Go.RowKit Go.Proofs.YtifikhcpojdhmaaW.PrintWords Go.Proofs.YtifikhcpojdhmaaW.PrintLast Go.Proofs.YtifikhcpojdhmaaW.PrintMore Go.Proofs.Ytifikhcpojdhmaa.P
set_option linter.unusedVariables false
set_option linter.unusedSimpArgs false
theorem pure_holds : Pure := by
  intro l h0
  have hp : ∀ p ∈ l, p.f1.size ≤ 9223372036854775807 ∧ p.f2.size ≤ 9223372036854775807 := fun p hp => (h0.2 p hp).2
  obtain ⟨K0, e0⟩ := Ev.get (szOpS_ev l 1048576 (by omega) (by omega) h0.1 hp)
  by_cases cz : szOpM l 1048576 < 0
  · refine ⟨K0, ?_⟩
    unfold laws_FnExactPutOps.f
    rw [e0 _ (by omega), Option.bind_some, if_pos cz]
  · obtain ⟨_, hn, hs⟩ := szOpM_ok (by omega) hp cz
    obtain ⟨m, hm⟩ : ∃ m, m = l.map cvtOp := ⟨_, rfl⟩
    have hml : m.length = l.length := by rw [hm, List.length_map]
    have hms : ∀ o ∈ m, (o.f1.size : Int) + o.f2.size ≤ 1048576 := fun o ho => by rw [hm] at ho; obtain ⟨q, hq, rfl⟩ := List.mem_map.1 ho; exact hs q hq
    obtain ⟨r, hr⟩ : ∃ r, r = putOpsM m := ⟨_, rfl⟩
    have hrl := putOpsM_len m hms
    rw [← hr] at hrl
    obtain ⟨K1, e1⟩ := Ev.get (hm ▸ toOpS_ev l (by omega))
    obtain ⟨K2, e2⟩ := Ev.get (hr ▸ spec_PutOps_ev m (by omega) hms)
    obtain ⟨K3, e3⟩ := Ev.get (hr ▸ impl_PutOps_ev m (by omega) hms)
    obtain ⟨K4, e4⟩ := Ev.get (eqOpS_ev m (by omega))
    obtain ⟨K5, e5⟩ := Ev.get (eqByteS_ev r (by omega))
    obtain ⟨K6, e6⟩ := Ev.get (markOpS_ev m 1 (by omega) (by omega) (by omega))
    obtain ⟨K7, e7⟩ := Ev.get (markByteS_ev r 1 (by omega) (by omega) (by omega))
    obtain ⟨K8, e8⟩ := Ev.get (heldByteS_ev r.length 1 (by omega) (by omega) (by omega))
    refine ⟨K0 + K1 + K2 + K3 + K4 + K5 + K6 + K7 + K8 + 1, ?_⟩
    unfold laws_FnExactPutOps.f
    rw [e0 _ (by omega), Option.bind_some, if_neg cz, e1 _ (by omega), Option.bind_some, e2 _ (by omega), Option.bind_some, Option.bind_some, e3 _ (by omega), Option.bind_some, e5 _ (by omega), Option.bind_some, if_pos rfl, Option.bind_some, e4 _ (by omega), Option.bind_some, if_pos rfl, e6 _ (by omega), Option.bind_some, if_neg (by simp only; omega), Option.bind_some]
    simp only [laws_FnExactPutOps.j0]
    rw [if_neg (by simp), e7 _ (by omega), Option.bind_some, e8 _ (by omega), Option.bind_some, if_neg (by omega), if_pos rfl, e1 _ (by omega), Option.bind_some, e3 _ (by omega), Option.bind_some, e5 _ (by omega), Option.bind_some, if_pos rfl, Option.bind_some, if_neg (by omega), if_pos rfl]
end Go.Proofs.Ytifikhcpojdhmaa.fnExactPutOps
namespace Go.Proofs.Ytifikhcpojdhmaa
theorem fnExactPutOps_holds : Rows.FnExactPutOpsSaid := fnExactPutOps.proved fnExactPutOps.pure_holds
#print axioms fnExactPutOps_holds
end Go.Proofs.Ytifikhcpojdhmaa
