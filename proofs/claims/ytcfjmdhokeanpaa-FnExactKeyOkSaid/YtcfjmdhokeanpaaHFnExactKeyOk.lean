/- FnExactKeyOk: the program's KeyOk answers what the reference's answers. No condition. -/
import Derived.Test.YtcfjmdhokeanpaaLawFnExactKeyOk
import Derived.Test.YtcfjmdhokeanpaaKeys
import Derived.Test.YtcfjmdhokeanpaaPx5
namespace Go.Proofs.Ytcfjmdhokeanpaa.fnExactKeyOk
open Go.RowKit Go.Proofs.YtcfjmdhokeanpaaW.PrintWords Go.Proofs.YtcfjmdhokeanpaaW.PrintLast Go.Proofs.YtcfjmdhokeanpaaW.PrintMore Go.Proofs.Ytcfjmdhokeanpaa.P
set_option linter.unusedVariables false
set_option linter.unusedSimpArgs false
theorem pure_holds : Pure := by
  intro s h0 
  by_cases c : (s.size : Int) > 1048576
  · exact ⟨0, by unfold laws_FnExactKeyOk.f; rw [if_pos c]⟩
  · obtain ⟨K1, e1⟩ := Ev.get (spec_KeyOk_ev s (by omega))
    obtain ⟨K2, e2⟩ := Ev.get (impl_KeyOk_ev s (by omega))
    refine ⟨K1 + K2, ?_⟩
    unfold laws_FnExactKeyOk.f
    rw [if_neg c, e1 _ (by omega), Option.bind_some, e2 _ (by omega), Option.bind_some, if_neg (by simp)]
end Go.Proofs.Ytcfjmdhokeanpaa.fnExactKeyOk
namespace Go.Proofs.Ytcfjmdhokeanpaa
theorem fnExactKeyOk_holds : Rows.FnExactKeyOkSaid := fnExactKeyOk.proved fnExactKeyOk.pure_holds
#print axioms fnExactKeyOk_holds
end Go.Proofs.Ytcfjmdhokeanpaa
