/- FnExactPathOf: the program's PathOf answers what the reference's answers, leaves its arguments as they are, and hands back memory of its own. No condition. -/
import Derived.Test.YtnjifkljamdfdaaLawFnExactPathOf
import Derived.Test.YtnjifkljamdfdaaLists
import Derived.Test.YtnjifkljamdfdaaTree
import Derived.Test.YtnjifkljamdfdaaPx33
namespace Go.Proofs.Ytnjifkljamdfdaa.fnExactPathOf
open Go.RowKit Go.Proofs.YtnjifkljamdfdaaW.PrintWords Go.Proofs.YtnjifkljamdfdaaW.PrintLast Go.Proofs.YtnjifkljamdfdaaW.PrintMore Go.Proofs.Ytnjifkljamdfdaa.P
set_option linter.unusedVariables false
set_option linter.unusedSimpArgs false
theorem pure_holds : Pure := by
  intro l a h0 h1
  have hp : ∀ p ∈ l, p.f0.size ≤ 9223372036854775807 ∧ p.f1.size ≤ 9223372036854775807 := fun p hp => h0.2 p hp
  obtain ⟨K0, e0⟩ := Ev.get (szPairS_ev l 1048576 (by omega) (by omega) h0.1 hp)
  by_cases cz : szPairM l 1048576 < 0
  · refine ⟨K0, ?_⟩
    unfold laws_FnExactPathOf.f
    rw [e0 _ (by omega), Option.bind_some, if_pos cz]
  · obtain ⟨_, hn, hs⟩ := szPairM_ok (by omega) hp cz
    obtain ⟨m, hm⟩ : ∃ m, m = l.map cvtPair := ⟨_, rfl⟩
    have hml : m.length = l.length := by rw [hm, List.length_map]
    have hf : Few m := fun o ho => by rw [hm] at ho; obtain ⟨q, hq, rfl⟩ := List.mem_map.1 ho; have := hs q hq; exact ⟨by show q.f0.size ≤ _; omega, by show q.f1.size ≤ _; omega⟩
    obtain ⟨r, hr⟩ : ∃ r, r = pathOfM m a := ⟨_, rfl⟩
    have hrl : r.length ≤ m.length := by rw [hr]; exact pathOfM_len m a
    obtain ⟨K1, e1⟩ := Ev.get (hm ▸ toPairS_ev l (by omega))
    obtain ⟨K2, e2⟩ := Ev.get (hr ▸ spec_PathOf_ev m a (wf_i64 h1) hf)
    obtain ⟨K3, e3⟩ := Ev.get (hr ▸ impl_PathOf_ev m a (wf_i64 h1) hf)
    obtain ⟨K4, e4⟩ := Ev.get (eqPairS_ev m (by omega))
    obtain ⟨K5, e5⟩ := Ev.get (eqStringS_ev r (by omega))
    obtain ⟨K6, e6⟩ := Ev.get (markPairS_ev m 1 (by omega) (by omega) (by omega))
    obtain ⟨K7, e7⟩ := Ev.get (markStringS_ev r 1 (by omega) (by omega) (by omega))
    obtain ⟨K8, e8⟩ := Ev.get (heldStringS_ev r.length 1 (by omega) (by omega) (by omega))
    refine ⟨K0 + K1 + K2 + K3 + K4 + K5 + K6 + K7 + K8 + 1, ?_⟩
    unfold laws_FnExactPathOf.f
    rw [e0 _ (by omega), Option.bind_some, if_neg cz, e1 _ (by omega), Option.bind_some, e2 _ (by omega), Option.bind_some, Option.bind_some, e3 _ (by omega), Option.bind_some, e5 _ (by omega), Option.bind_some, if_pos rfl, Option.bind_some, e4 _ (by omega), Option.bind_some, if_pos rfl, e6 _ (by omega), Option.bind_some, if_neg (by simp only; omega), Option.bind_some]
    simp only [laws_FnExactPathOf.j0]
    rw [if_neg (by simp), e7 _ (by omega), Option.bind_some, e8 _ (by omega), Option.bind_some, if_neg (by omega), if_pos rfl, e1 _ (by omega), Option.bind_some, e3 _ (by omega), Option.bind_some, e5 _ (by omega), Option.bind_some, if_pos rfl, Option.bind_some, if_neg (by omega), if_pos rfl]
end Go.Proofs.Ytnjifkljamdfdaa.fnExactPathOf
namespace Go.Proofs.Ytnjifkljamdfdaa
theorem fnExactPathOf_holds : Rows.FnExactPathOfSaid := fnExactPathOf.proved fnExactPathOf.pure_holds
#print axioms fnExactPathOf_holds
end Go.Proofs.Ytnjifkljamdfdaa
