/- FnExactBetween: the program's Between answers what the reference's answers, leaves its arguments as they are, and hands back memory of its own. No condition. -/
import Derived.Test.YtoeblihennmfnaaLawFnExactBetween
import Derived.Test.YtoeblihennmfnaaCols
import Derived.Test.YtoeblihennmfnaaPx19
namespace Go.Proofs.Ytoeblihennmfnaa.fnExactBetween
open Go.RowKit Go.Proofs.YtoeblihennmfnaaW.PrintWords Go.Proofs.YtoeblihennmfnaaW.PrintLast Go.Proofs.YtoeblihennmfnaaW.PrintMore Go.Proofs.Ytoeblihennmfnaa.P
set_option linter.unusedVariables false
set_option linter.unusedSimpArgs false
theorem pure_holds : Pure := by
  intro l a b h0 h1 h2
  by_cases c : (a.size : Int) > 1048576
  · exact ⟨0, by unfold laws_FnExactBetween.f; rw [if_pos c]⟩
  by_cases c2 : (b.size : Int) > 1048576
  · exact ⟨0, by unfold laws_FnExactBetween.f; rw [if_neg c, if_pos c2]⟩
  have hp : ∀ p ∈ l, p.f0.size ≤ 9223372036854775807 ∧ p.f1.size ≤ 9223372036854775807 := fun p hp => h0.2 p hp
  obtain ⟨K0, e0⟩ := Ev.get (szPairS_ev l 1048576 (by omega) (by omega) h0.1 hp)
  by_cases cz : szPairM l 1048576 < 0
  · refine ⟨K0, ?_⟩
    unfold laws_FnExactBetween.f
    rw [if_neg c, if_neg c2, e0 _ (by omega), Option.bind_some, if_pos cz]
  · obtain ⟨_, hn, hs⟩ := szPairM_ok (by omega) hp cz
    obtain ⟨m, hm⟩ : ∃ m, m = l.map cvtPair := ⟨_, rfl⟩
    have hml : m.length = l.length := by rw [hm, List.length_map]
    obtain ⟨r, hr⟩ : ∃ r, r = m.filter (btwB a b) := ⟨_, rfl⟩
    have hrl : r.length ≤ m.length := by rw [hr]; exact List.length_filter_le _ _
    obtain ⟨K1, e1⟩ := Ev.get (hm ▸ toPairS_ev l (by omega))
    obtain ⟨K2, e2⟩ := Ev.get (hr ▸ spec_Between_ev m (by omega) a b)
    obtain ⟨K3, e3⟩ := Ev.get (hr ▸ impl_Between_ev m (by omega) a b)
    obtain ⟨K4, e4⟩ := Ev.get (eqPairS_ev m (by omega))
    obtain ⟨K5, e5⟩ := Ev.get (eqPairS_ev r (by omega))
    obtain ⟨K6, e6⟩ := Ev.get (markPairS_ev m 1 (by omega) (by omega) (by omega))
    obtain ⟨K7, e7⟩ := Ev.get (markPairS_ev r 1 (by omega) (by omega) (by omega))
    obtain ⟨K8, e8⟩ := Ev.get (heldPairS_ev r.length 1 (by omega) (by omega) (by omega))
    refine ⟨K0 + K1 + K2 + K3 + K4 + K5 + K6 + K7 + K8 + 1, ?_⟩
    unfold laws_FnExactBetween.f
    rw [if_neg c, if_neg c2, e0 _ (by omega), Option.bind_some, if_neg cz, e1 _ (by omega), Option.bind_some, e2 _ (by omega), Option.bind_some, Option.bind_some, e3 _ (by omega), Option.bind_some, e5 _ (by omega), Option.bind_some, if_pos rfl, Option.bind_some, e4 _ (by omega), Option.bind_some, if_pos rfl, e6 _ (by omega), Option.bind_some, if_neg (by simp only; omega), Option.bind_some]
    simp only [laws_FnExactBetween.j0]
    rw [if_neg (by simp), e7 _ (by omega), Option.bind_some, e8 _ (by omega), Option.bind_some, if_neg (by omega), if_pos rfl, e1 _ (by omega), Option.bind_some, e3 _ (by omega), Option.bind_some, e5 _ (by omega), Option.bind_some, if_pos rfl, Option.bind_some, if_neg (by omega), if_pos rfl]
end Go.Proofs.Ytoeblihennmfnaa.fnExactBetween
namespace Go.Proofs.Ytoeblihennmfnaa
theorem fnExactBetween_holds : Rows.FnExactBetweenSaid := fnExactBetween.proved fnExactBetween.pure_holds
#print axioms fnExactBetween_holds
end Go.Proofs.Ytoeblihennmfnaa
