/- FnExactLeafOf: the program's LeafOf answers what the reference's answers. No condition. -/
import Derived.Test.YtnjifkljamdfdaaLawFnExactLeafOf
import Derived.Test.YtnjifkljamdfdaaSizes
import Derived.Test.YtnjifkljamdfdaaTree
import Derived.Test.YtnjifkljamdfdaaPx12
import Derived.Test.YtnjifkljamdfdaaPx14
namespace Go.Proofs.Ytnjifkljamdfdaa.fnExactLeafOf
open Go.RowKit Go.Proofs.YtnjifkljamdfdaaW.PrintWords Go.Proofs.YtnjifkljamdfdaaW.PrintLast Go.Proofs.YtnjifkljamdfdaaW.PrintMore Go.Proofs.Ytnjifkljamdfdaa.P
set_option linter.unusedVariables false
set_option linter.unusedSimpArgs false
theorem pure_holds : Pure := by
  intro p h0
  have hz := szPair_eq p.f0 p.f1 1048576 (by omega) (by omega) h0.1 h0.2
  by_cases c : szM2 p.f0.size p.f1.size 1048576 < 0
  · exact ⟨0, by unfold laws_FnExactLeafOf.f; rw [hz, Option.bind_some, if_pos c]⟩
  · have hs := szM2_ok (by omega) h0.1 h0.2 c
    obtain ⟨K1, e1⟩ := Ev.get (spec_LeafOf_ev p.f0 p.f1 (by omega) (by omega))
    obtain ⟨K2, e2⟩ := Ev.get (impl_LeafOf_ev p.f0 p.f1 (by omega) (by omega))
    refine ⟨K1 + K2, ?_⟩
    unfold laws_FnExactLeafOf.f laws_toPair.f
    rw [hz, Option.bind_some, if_neg c, Option.bind_some, e1 _ (by omega), Option.bind_some, Option.bind_some, e2 _ (by omega), Option.bind_some, if_pos rfl]
end Go.Proofs.Ytnjifkljamdfdaa.fnExactLeafOf
namespace Go.Proofs.Ytnjifkljamdfdaa
theorem fnExactLeafOf_holds : Rows.FnExactLeafOfSaid := fnExactLeafOf.proved fnExactLeafOf.pure_holds
#print axioms fnExactLeafOf_holds
end Go.Proofs.Ytnjifkljamdfdaa
