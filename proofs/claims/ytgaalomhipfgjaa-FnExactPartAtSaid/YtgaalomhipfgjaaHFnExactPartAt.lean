/- FnExactPartAt: the program's PartAt answers what the reference's answers. No condition. -/
import Derived.Test.YtgaalomhipfgjaaLawFnExactPartAt
import Derived.Test.YtgaalomhipfgjaaLists
import Derived.Test.YtgaalomhipfgjaaPart
import Derived.Test.YtgaalomhipfgjaaPx12
import Derived.Test.YtgaalomhipfgjaaPx14
namespace Go.Proofs.Ytgaalomhipfgjaa.fnExactPartAt
open Go.RowKit Go.Proofs.YtgaalomhipfgjaaW.PrintWords Go.Proofs.YtgaalomhipfgjaaW.PrintLast Go.Proofs.YtgaalomhipfgjaaW.PrintMore Go.Proofs.Ytgaalomhipfgjaa.P
set_option linter.unusedVariables false
set_option linter.unusedSimpArgs false
theorem pure_holds : Pure := by
  intro l p i n t h0 h1 h2 h3 h4
  have hp : ∀ p ∈ l, p.f0.size ≤ 9223372036854775807 ∧ p.f1.size ≤ 9223372036854775807 := fun p hp => h0.2 p hp
  obtain ⟨K0, e0⟩ := Ev.get (szPairS_ev l 1048576 (by omega) (by omega) h0.1 hp)
  by_cases cz : szPairM l 1048576 < 0
  · refine ⟨K0, ?_⟩
    unfold laws_FnExactPartAt.f
    rw [e0 _ (by omega), Option.bind_some, if_pos cz]
  obtain ⟨hz0, hn, hs⟩ := szPairM_ok (by omega) hp cz
  have hz := szPair_eq p.f0 p.f1 (szPairM l 1048576) (by omega) (by omega) h1.1 h1.2
  by_cases c2 : szM2 p.f0.size p.f1.size (szPairM l 1048576) < 0
  · refine ⟨K0, ?_⟩
    unfold laws_FnExactPartAt.f
    rw [e0 _ (by omega), Option.bind_some, if_neg cz, hz, Option.bind_some, if_pos c2]
  have hs2 := szM2_ok (by omega) h1.1 h1.2 c2
  obtain ⟨K9, e9⟩ := Ev.get (szStringS_ev t (szM2 p.f0.size p.f1.size (szPairM l 1048576)) (by omega) (by omega) h4.1 h4.2)
  by_cases c3 : szStrM t (szM2 p.f0.size p.f1.size (szPairM l 1048576)) < 0
  · refine ⟨K0 + K9, ?_⟩
    unfold laws_FnExactPartAt.f
    rw [e0 _ (by omega), Option.bind_some, if_neg cz, hz, Option.bind_some, if_neg c2, e9 _ (by omega), Option.bind_some, if_pos c3]
  have hz2 := szStrM_ok c3
  have hft : FewS t := fun x hx => by have := size_le_sum hx; omega
  obtain ⟨m, hm⟩ : ∃ m, m = l.map cvtPair := ⟨_, rfl⟩
  have hml : m.length = l.length := by rw [hm, List.length_map]
  have hf : FewP m := fun o ho => by rw [hm] at ho; obtain ⟨q, hq, rfl⟩ := List.mem_map.1 ho; have := hs q hq; exact ⟨by show q.f0.size ≤ _; omega, by show q.f1.size ≤ _; omega⟩
  obtain ⟨r, hr⟩ : ∃ r, r = partM m p.f0 p.f1 i n t := ⟨_, rfl⟩
  obtain ⟨K1, e1⟩ := Ev.get (hm ▸ toPairS_ev l (by omega))
  obtain ⟨K2, e2⟩ := Ev.get (toStringS_ev t (by omega))
  obtain ⟨K3, e3⟩ := Ev.get (hr ▸ spec_PartAt_ev m (by omega) hf p.f0 p.f1 (by omega) (by omega) i n (wf_i64 h3) t hft (by omega))
  obtain ⟨K4, e4⟩ := Ev.get (hr ▸ impl_PartAt_ev m (by omega) hf p.f0 p.f1 (by omega) (by omega) i n (wf_i64 h3) t hft (by omega))
  obtain ⟨K5, e5⟩ := Ev.get (eqPairS_ev m (by omega))
  obtain ⟨K6, e6⟩ := Ev.get (eqStringS_ev t (by omega))
  refine ⟨K0 + K1 + K2 + K3 + K4 + K5 + K6 + K9 + 1, ?_⟩
  unfold laws_FnExactPartAt.f laws_toPair.f
  rw [e0 _ (by omega), Option.bind_some, if_neg cz, hz, Option.bind_some, if_neg c2, e9 _ (by omega), Option.bind_some, if_neg c3, e1 _ (by omega), Option.bind_some, Option.bind_some, e2 _ (by omega), Option.bind_some, e3 _ (by omega), Option.bind_some, Option.bind_some, Option.bind_some, Option.bind_some, e4 _ (by omega), Option.bind_some, if_pos rfl, if_pos rfl]
  simp only [laws_FnExactPartAt.j0]
  rw [if_neg (by simp), e1 _ (by omega), Option.bind_some, e5 _ (by omega), Option.bind_some, if_pos rfl, e2 _ (by omega), Option.bind_some, e6 _ (by omega), Option.bind_some, if_pos rfl]
end Go.Proofs.Ytgaalomhipfgjaa.fnExactPartAt
namespace Go.Proofs.Ytgaalomhipfgjaa
theorem fnExactPartAt_holds : Rows.FnExactPartAtSaid := fnExactPartAt.proved fnExactPartAt.pure_holds
#print axioms fnExactPartAt_holds
end Go.Proofs.Ytgaalomhipfgjaa
