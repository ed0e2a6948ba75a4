/- FnExactNodeOf: the program's NodeOf answers what the reference's answers. No condition. -/
import Derived.Test.YtnjifkljamdfdaaLawFnExactNodeOf
import Derived.Test.YtnjifkljamdfdaaTree
import Derived.Test.YtnjifkljamdfdaaPx10
namespace Go.Proofs.Ytnjifkljamdfdaa.fnExactNodeOf
open Go.RowKit Go.Proofs.YtnjifkljamdfdaaW.PrintWords Go.Proofs.YtnjifkljamdfdaaW.PrintLast Go.Proofs.YtnjifkljamdfdaaW.PrintMore Go.Proofs.Ytnjifkljamdfdaa.P
set_option linter.unusedVariables false
set_option linter.unusedSimpArgs false
theorem pure_holds : Pure := by
  intro a b h0 h1
  by_cases c : (a.size : Int) > 1048576
  · exact ⟨0, by unfold laws_FnExactNodeOf.f; rw [if_pos c]⟩
  by_cases c2 : (b.size : Int) > 1048576
  · exact ⟨0, by unfold laws_FnExactNodeOf.f; rw [if_neg c, if_pos c2]⟩
  · obtain ⟨K1, e1⟩ := Ev.get (spec_NodeOf_ev a b (by omega) (by omega))
    obtain ⟨K2, e2⟩ := Ev.get (impl_NodeOf_ev a b (by omega) (by omega))
    refine ⟨K1 + K2, ?_⟩
    unfold laws_FnExactNodeOf.f
    rw [if_neg c, if_neg c2, e1 _ (by omega), Option.bind_some, e2 _ (by omega), Option.bind_some, if_pos rfl]
end Go.Proofs.Ytnjifkljamdfdaa.fnExactNodeOf
namespace Go.Proofs.Ytnjifkljamdfdaa
theorem fnExactNodeOf_holds : Rows.FnExactNodeOfSaid := fnExactNodeOf.proved fnExactNodeOf.pure_holds
#print axioms fnExactNodeOf_holds
end Go.Proofs.Ytnjifkljamdfdaa
