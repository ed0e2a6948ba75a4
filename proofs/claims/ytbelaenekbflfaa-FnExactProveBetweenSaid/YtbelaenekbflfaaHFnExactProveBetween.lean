import Derived.Test.YtbelaenekbflfaaPureHFnExactProveBetween
/- FnExactProveBetween: the program's ProveBetween answers what the reference's answers, leaves its arguments as they are, and hands back memory of its own. No condition. -/
import Derived.Test.YtbelaenekbflfaaLawFnExactProveBetween
import Derived.Test.YtbelaenekbflfaaPx13
namespace Go.Proofs.Ytbelaenekbflfaa.fnExactProveBetween
open Go.RowKit Go.Proofs.YtbelaenekbflfaaW.PrintWords Go.Proofs.YtbelaenekbflfaaW.PrintLast Go.Proofs.YtbelaenekbflfaaW.PrintMore Go.Proofs.Ytbelaenekbflfaa.P
set_option linter.unusedVariables false
set_option linter.unusedSimpArgs false
theorem pure_holds : Pure := by
  intro l a b h0 h1 h2
  have hp : ∀ p ∈ l, p.f0.size ≤ 9223372036854775807 ∧ p.f1.size ≤ 9223372036854775807 := fun p hp => h0.2 p hp
  by_cases ca : (a.size : Int) > 1048576
  · exact ⟨0, by unfold laws_FnExactProveBetween.f; rw [if_pos ca]⟩
  by_cases cb : (b.size : Int) > 1048576
  · exact ⟨0, by unfold laws_FnExactProveBetween.f; rw [if_neg ca, if_pos cb]⟩
  obtain ⟨K0, e0⟩ := Ev.get (szPairS_ev l 1048576 (by omega) (by omega) h0.1 hp)
  by_cases cz : szPairM l 1048576 < 0
  · refine ⟨K0, ?_⟩
    unfold laws_FnExactProveBetween.f
    rw [if_neg ca, if_neg cb, e0 _ (by omega), Option.bind_some, if_pos cz]
  · obtain ⟨_, hn, hs⟩ := szPairM_ok (by omega) hp cz
    obtain ⟨m, hm⟩ : ∃ m, m = l.map cvtPair := ⟨_, rfl⟩
    have hml : m.length = l.length := by rw [hm, List.length_map]
    have hf : Few m := fun o ho => by rw [hm] at ho; obtain ⟨q, hq, rfl⟩ := List.mem_map.1 ho; have := hs q hq; exact ⟨by show q.f0.size ≤ _; omega, by show q.f1.size ≤ _; omega⟩
    obtain ⟨r, hr⟩ : ∃ r, r = proveM m a b := ⟨_, rfl⟩
    have hri : FewI r.2.2 := by rw [hr]; exact proveM_few m a b
    have hge := mkI_ge r.2.2 1
    obtain ⟨K1, e1⟩ := Ev.get (hm ▸ toPairS_ev l (by omega))
    obtain ⟨K2, e2⟩ := Ev.get (hr ▸ spec_Prove_all m (by omega) hf a b)
    obtain ⟨K3, e3⟩ := Ev.get (hr ▸ impl_Prove_all m (by omega) hf a b)
    obtain ⟨K4, e4⟩ := Ev.get (eqPairS_ev m (by omega))
    obtain ⟨K5, e5⟩ := Ev.get (eqProof_ev r.1 r.2.1 r.2.2 hri)
    obtain ⟨K6, e6⟩ := Ev.get (markPairS_ev m 1 (by omega) (by omega) (by omega))
    obtain ⟨K7, e7⟩ := Ev.get (markProof_ev r.1 r.2.1 r.2.2 hri)
    obtain ⟨K8, e8⟩ := Ev.get (heldProof_ev r.1 r.2.1 r.2.2 hri)
    refine ⟨K0 + K1 + K2 + K3 + K4 + K5 + K6 + K7 + K8 + 1, ?_⟩
    unfold laws_FnExactProveBetween.f
    rw [if_neg ca, if_neg cb, e0 _ (by omega), Option.bind_some, if_neg cz, e1 _ (by omega), Option.bind_some, e2 _ (by omega), Option.bind_some, Option.bind_some, e3 _ (by omega), Option.bind_some, e5 _ (by omega), Option.bind_some, if_pos rfl, Option.bind_some, e4 _ (by omega), Option.bind_some, if_pos rfl, e6 _ (by omega), Option.bind_some, if_neg (by simp only; omega), Option.bind_some]
    simp only [laws_FnExactProveBetween.j0]
    rw [if_neg (by simp), e7 _ (by omega), Option.bind_some, e8 _ (by omega), Option.bind_some, if_neg (by omega), if_pos rfl, e1 _ (by omega), Option.bind_some, e3 _ (by omega), Option.bind_some, e5 _ (by omega), Option.bind_some, if_pos rfl, Option.bind_some, if_neg (by omega), if_pos rfl]
end Go.Proofs.Ytbelaenekbflfaa.fnExactProveBetween
namespace Go.Proofs.Ytbelaenekbflfaa
theorem fnExactProveBetween_holds : Rows.FnExactProveBetweenSaid := fnExactProveBetween.proved fnExactProveBetween.pure_holds
#print axioms fnExactProveBetween_holds
end Go.Proofs.Ytbelaenekbflfaa
