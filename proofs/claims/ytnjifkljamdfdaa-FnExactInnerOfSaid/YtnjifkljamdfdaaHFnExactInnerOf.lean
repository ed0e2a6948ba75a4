/- FnExactInnerOf: the program's InnerOf answers what the reference's answers and leaves its argument as it is. No condition. -/
import Derived.Test.YtnjifkljamdfdaaLawFnExactInnerOf
import Derived.Test.YtnjifkljamdfdaaLists
import Derived.Test.YtnjifkljamdfdaaTree
import Derived.Test.YtnjifkljamdfdaaPx30
namespace Go.Proofs.Ytnjifkljamdfdaa.fnExactInnerOf
open Go.RowKit Go.Proofs.YtnjifkljamdfdaaW.PrintWords Go.Proofs.YtnjifkljamdfdaaW.PrintLast Go.Proofs.YtnjifkljamdfdaaW.PrintMore Go.Proofs.Ytnjifkljamdfdaa.P
set_option linter.unusedVariables false
set_option linter.unusedSimpArgs false
theorem pure_holds : Pure := by
  intro l h0
  have hp : ∀ p ∈ l, p.f0.size ≤ 9223372036854775807 ∧ p.f1.size ≤ 9223372036854775807 := fun p hp => h0.2 p hp
  obtain ⟨K0, e0⟩ := Ev.get (szPairS_ev l 1048576 (by omega) (by omega) h0.1 hp)
  by_cases cz : szPairM l 1048576 < 0
  · refine ⟨K0, ?_⟩
    unfold laws_FnExactInnerOf.f
    rw [e0 _ (by omega), Option.bind_some, if_pos cz]
  · obtain ⟨_, hn, hs⟩ := szPairM_ok (by omega) hp cz
    obtain ⟨m, hm⟩ : ∃ m, m = l.map cvtPair := ⟨_, rfl⟩
    have hml : m.length = l.length := by rw [hm, List.length_map]
    have hf : Few m := fun o ho => by rw [hm] at ho; obtain ⟨q, hq, rfl⟩ := List.mem_map.1 ho; have := hs q hq; exact ⟨by show q.f0.size ≤ _; omega, by show q.f1.size ≤ _; omega⟩
    obtain ⟨r, hr⟩ : ∃ r, r = innerOfM m := ⟨_, rfl⟩
    obtain ⟨K1, e1⟩ := Ev.get (hm ▸ toPairS_ev l (by omega))
    obtain ⟨K2, e2⟩ := Ev.get (hr ▸ spec_InnerOf_ev m hf)
    obtain ⟨K3, e3⟩ := Ev.get (hr ▸ impl_InnerOf_ev m hf)
    obtain ⟨K4, e4⟩ := Ev.get (eqPairS_ev m (by omega))
    refine ⟨K0 + K1 + K2 + K3 + K4, ?_⟩
    unfold laws_FnExactInnerOf.f
    rw [e0 _ (by omega), Option.bind_some, if_neg cz, e1 _ (by omega), Option.bind_some, e2 _ (by omega), Option.bind_some, Option.bind_some, e3 _ (by omega), Option.bind_some, if_pos rfl, Option.bind_some, e4 _ (by omega), Option.bind_some, if_pos rfl]
end Go.Proofs.Ytnjifkljamdfdaa.fnExactInnerOf
namespace Go.Proofs.Ytnjifkljamdfdaa
theorem fnExactInnerOf_holds : Rows.FnExactInnerOfSaid := fnExactInnerOf.proved fnExactInnerOf.pure_holds
#print axioms fnExactInnerOf_holds
end Go.Proofs.Ytnjifkljamdfdaa
