/- FnExactMeets: the program's Meets answers what the reference's answers and leaves its arguments as they are. No condition. -/
import Derived.Test.YtifikhcpojdhmaaLawFnExactMeets
import Derived.Test.YtifikhcpojdhmaaMeets
import Derived.Test.YtifikhcpojdhmaaPx9
namespace Go.Proofs.Ytifikhcpojdhmaa.fnExactMeets
open Go.RowKit Go.Proofs.YtifikhcpojdhmaaW.PrintWords Go.Proofs.YtifikhcpojdhmaaW.PrintLast Go.Proofs.YtifikhcpojdhmaaW.PrintMore Go.Proofs.Ytifikhcpojdhmaa.P
set_option linter.unusedVariables false
set_option linter.unusedSimpArgs false
theorem pure_holds : Pure := by
  intro l x h0 h1
  have hp : ∀ p ∈ l, p.f0.size ≤ 9223372036854775807 ∧ p.f1.size ≤ 9223372036854775807 := fun p hp => h0.2 p hp
  have hq : ∀ p ∈ x, p.f1.size ≤ 9223372036854775807 ∧ p.f2.size ≤ 9223372036854775807 := fun p hp => (h1.2 p hp).2
  obtain ⟨K0, e0⟩ := Ev.get (szPairS_ev l 1048576 (by omega) (by omega) h0.1 hp)
  by_cases cz : szPairM l 1048576 < 0
  · refine ⟨K0, ?_⟩
    unfold laws_FnExactMeets.f
    rw [e0 _ (by omega), Option.bind_some, if_pos cz]
  · obtain ⟨hz, hn, hs⟩ := szPairM_ok (by omega) hp cz
    obtain ⟨K9, e9⟩ := Ev.get (szOpS_ev x (szPairM l 1048576) (by omega) hz h1.1 hq)
    by_cases cz2 : szOpM x (szPairM l 1048576) < 0
    · refine ⟨K0 + K9, ?_⟩
      unfold laws_FnExactMeets.f
      rw [e0 _ (by omega), Option.bind_some, if_neg cz, e9 _ (by omega), Option.bind_some, if_pos cz2]
    · obtain ⟨_, hn2, hs2⟩ := szOpM_ok hz hq cz2
      obtain ⟨m, hm⟩ : ∃ m, m = l.map cvtPair := ⟨_, rfl⟩
      have hml : m.length = l.length := by rw [hm, List.length_map]
      obtain ⟨n, hn'⟩ : ∃ n, n = x.map cvtOp := ⟨_, rfl⟩
      have hnl : n.length = x.length := by rw [hn', List.length_map]
      obtain ⟨r, hr⟩ : ∃ r, r = meetsM m n n.length 0 := ⟨_, rfl⟩
      obtain ⟨K1, e1⟩ := Ev.get (hm ▸ toPairS_ev l (by omega))
      obtain ⟨K2, e2⟩ := Ev.get (hn' ▸ toOpS_ev x (by omega))
      obtain ⟨K3, e3⟩ := Ev.get (hr ▸ spec_Meets_ev m (by omega) n (by omega))
      obtain ⟨K4, e4⟩ := Ev.get (hr ▸ impl_Meets_ev m (by omega) n (by omega))
      obtain ⟨K5, e5⟩ := Ev.get (eqPairS_ev m (by omega))
      obtain ⟨K6, e6⟩ := Ev.get (eqOpS_ev n (by omega))
      refine ⟨K0 + K1 + K2 + K3 + K4 + K5 + K6 + K9, ?_⟩
      unfold laws_FnExactMeets.f
      rw [e0 _ (by omega), Option.bind_some, if_neg cz, e9 _ (by omega), Option.bind_some, if_neg cz2, e1 _ (by omega), Option.bind_some, e2 _ (by omega), Option.bind_some, e3 _ (by omega), Option.bind_some, Option.bind_some, Option.bind_some, e4 _ (by omega), Option.bind_some, if_neg (by simp), Option.bind_some, e5 _ (by omega), Option.bind_some, if_pos rfl, Option.bind_some, e6 _ (by omega), Option.bind_some, if_pos rfl]
end Go.Proofs.Ytifikhcpojdhmaa.fnExactMeets
namespace Go.Proofs.Ytifikhcpojdhmaa
theorem fnExactMeets_holds : Rows.FnExactMeetsSaid := fnExactMeets.proved fnExactMeets.pure_holds
#print axioms fnExactMeets_holds
end Go.Proofs.Ytifikhcpojdhmaa
