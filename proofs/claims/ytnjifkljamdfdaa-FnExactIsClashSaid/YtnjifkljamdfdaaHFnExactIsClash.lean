/- FnExactIsClash: the program's IsClash answers what the reference's answers. No condition. -/
import Derived.Test.YtnjifkljamdfdaaLawFnExactIsClash
import Derived.Test.YtnjifkljamdfdaaClash
import Derived.Test.YtnjifkljamdfdaaPx51
namespace Go.Proofs.Ytnjifkljamdfdaa.fnExactIsClash
open Go.RowKit Go.Proofs.YtnjifkljamdfdaaW.PrintWords Go.Proofs.YtnjifkljamdfdaaW.PrintLast Go.Proofs.YtnjifkljamdfdaaW.PrintMore Go.Proofs.Ytnjifkljamdfdaa.P
set_option linter.unusedVariables false
set_option linter.unusedSimpArgs false
theorem pure_holds : Pure := by
  intro a b n h0 h1 h2
  by_cases c : (a.size : Int) > 1048576
  · exact ⟨0, by unfold laws_FnExactIsClash.f; rw [if_pos c]⟩
  by_cases c2 : (b.size : Int) > 1048576
  · exact ⟨0, by unfold laws_FnExactIsClash.f; rw [if_neg c, if_pos c2]⟩
  · obtain ⟨K1, e1⟩ := Ev.get (spec_IsClash_ev a b n (by omega) (by omega))
    obtain ⟨K2, e2⟩ := Ev.get (impl_IsClash_ev a b n (by omega) (by omega))
    refine ⟨K1 + K2, ?_⟩
    unfold laws_FnExactIsClash.f
    rw [if_neg c, if_neg c2, e1 _ (by omega), Option.bind_some, e2 _ (by omega), Option.bind_some, if_neg (by simp)]
end Go.Proofs.Ytnjifkljamdfdaa.fnExactIsClash
namespace Go.Proofs.Ytnjifkljamdfdaa
theorem fnExactIsClash_holds : Rows.FnExactIsClashSaid := fnExactIsClash.proved fnExactIsClash.pure_holds
#print axioms fnExactIsClash_holds
end Go.Proofs.Ytnjifkljamdfdaa
