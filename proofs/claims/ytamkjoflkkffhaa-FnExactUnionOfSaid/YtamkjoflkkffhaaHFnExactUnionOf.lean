/- FnExactUnionOf: the program's UnionOf answers what the reference's answers, leaves its arguments as they are, and hands back memory of its own. No condition. -/
import Derived.Test.YtamkjoflkkffhaaLawFnExactUnionOf
import Derived.Test.YtamkjoflkkffhaaPut
import Derived.Test.YtamkjoflkkffhaaPx40
namespace Go.Proofs.Ytamkjoflkkffhaa.fnExactUnionOf
open Go.RowKit Go.Proofs.YtamkjoflkkffhaaW.PrintWords Go.Proofs.YtamkjoflkkffhaaW.PrintLast Go.Proofs.YtamkjoflkkffhaaW.PrintMore Go.Proofs.Ytamkjoflkkffhaa.P
set_option linter.unusedVariables false
set_option linter.unusedSimpArgs false
theorem pure_holds : Pure := by
  intro l x h0 h1
  have hp : ∀ p ∈ l, p.f0.size ≤ 9223372036854775807 ∧ p.f1.size ≤ 9223372036854775807 := fun p hp => h0.2 p hp
  have hq : ∀ p ∈ x, p.f0.size ≤ 9223372036854775807 ∧ p.f1.size ≤ 9223372036854775807 := fun p hp => h1.2 p hp
  obtain ⟨K0, e0⟩ := Ev.get (szPairS_ev l 1048576 (by omega) (by omega) h0.1 hp)
  by_cases cz : szPairM l 1048576 < 0
  · refine ⟨K0, ?_⟩
    unfold laws_FnExactUnionOf.f
    rw [e0 _ (by omega), Option.bind_some, if_pos cz]
  · obtain ⟨hz, hn, hs⟩ := szPairM_ok (by omega) hp cz
    obtain ⟨K9, e9⟩ := Ev.get (szPairS_ev x (szPairM l 1048576) (by omega) hz h1.1 hq)
    by_cases cz2 : szPairM x (szPairM l 1048576) < 0
    · refine ⟨K0 + K9, ?_⟩
      unfold laws_FnExactUnionOf.f
      rw [e0 _ (by omega), Option.bind_some, if_neg cz, e9 _ (by omega), Option.bind_some, if_pos cz2]
    · obtain ⟨_, hn2, hs2⟩ := szPairM_ok hz hq cz2
      obtain ⟨m, hm⟩ : ∃ m, m = l.map cvtPair := ⟨_, rfl⟩
      have hml : m.length = l.length := by rw [hm, List.length_map]
      obtain ⟨n, hn'⟩ : ∃ n, n = x.map cvtPair := ⟨_, rfl⟩
      have hnl : n.length = x.length := by rw [hn', List.length_map]
      obtain ⟨r, hr⟩ : ∃ r, r = unionM m n := ⟨_, rfl⟩
      have hrl : r.length ≤ m.length + n.length := by rw [hr]; exact (unionM_len n m).2
      obtain ⟨K1, e1⟩ := Ev.get (hm ▸ toPairS_ev l (by omega))
      obtain ⟨K2, e2⟩ := Ev.get (hn' ▸ toPairS_ev x (by omega))
      obtain ⟨K3, e3⟩ := Ev.get (hr ▸ spec_UnionOf_ev m n (by omega) (by omega))
      obtain ⟨K4, e4⟩ := Ev.get (hr ▸ impl_UnionOf_ev m n (by omega) (by omega))
      obtain ⟨K5, e5⟩ := Ev.get (eqPairS_ev m (by omega))
      obtain ⟨K6, e6⟩ := Ev.get (eqPairS_ev n (by omega))
      obtain ⟨K7, e7⟩ := Ev.get (eqPairS_ev r (by omega))
      obtain ⟨K8, e8⟩ := Ev.get (markPairS_ev m 1 (by omega) (by omega) (by omega))
      obtain ⟨K10, e10⟩ := Ev.get (markPairS_ev n (1 + 2 * (m.length : Int)) (by omega) (by omega) (by omega))
      obtain ⟨K11, e11⟩ := Ev.get (markPairS_ev r 1 (by omega) (by omega) (by omega))
      obtain ⟨K12, e12⟩ := Ev.get (heldPairS_ev r.length 1 (by omega) (by omega) (by omega))
      refine ⟨K0 + K1 + K2 + K3 + K4 + K5 + K6 + K7 + K8 + K9 + K10 + K11 + K12 + 1, ?_⟩
      unfold laws_FnExactUnionOf.f
      rw [e0 _ (by omega), Option.bind_some, if_neg cz, e9 _ (by omega), Option.bind_some, if_neg cz2, e1 _ (by omega), Option.bind_some, e2 _ (by omega), Option.bind_some, e3 _ (by omega), Option.bind_some, Option.bind_some, Option.bind_some, e4 _ (by omega), Option.bind_some, e7 _ (by omega), Option.bind_some, if_pos rfl, Option.bind_some, e5 _ (by omega), Option.bind_some, if_pos rfl, Option.bind_some, e6 _ (by omega), Option.bind_some, if_pos rfl, e8 _ (by omega), Option.bind_some, e10 _ (by omega), Option.bind_some, if_neg (by simp only; omega), Option.bind_some]
      simp only [laws_FnExactUnionOf.j0]
      rw [if_neg (by simp), e11 _ (by omega), Option.bind_some, e12 _ (by omega), Option.bind_some, if_neg (by omega), if_pos rfl, e1 _ (by omega), Option.bind_some, e2 _ (by omega), Option.bind_some, e4 _ (by omega), Option.bind_some, e7 _ (by omega), Option.bind_some, if_pos rfl, Option.bind_some, if_neg (by omega), if_pos rfl]
end Go.Proofs.Ytamkjoflkkffhaa.fnExactUnionOf
namespace Go.Proofs.Ytamkjoflkkffhaa
theorem fnExactUnionOf_holds : Rows.FnExactUnionOfSaid := fnExactUnionOf.proved fnExactUnionOf.pure_holds
#print axioms fnExactUnionOf_holds
end Go.Proofs.Ytamkjoflkkffhaa
