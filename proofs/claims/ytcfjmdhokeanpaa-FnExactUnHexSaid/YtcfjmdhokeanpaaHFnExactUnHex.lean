/- FnExactUnHex: the program's UnHex answers what the reference's answers. No condition. -/
import Derived.Test.YtcfjmdhokeanpaaLawFnExactUnHex
import Derived.Test.YtcfjmdhokeanpaaHex
import Derived.Test.YtcfjmdhokeanpaaPx10
namespace Go.Proofs.Ytcfjmdhokeanpaa.fnExactUnHex
open Go.RowKit Go.Proofs.YtcfjmdhokeanpaaW.PrintWords Go.Proofs.YtcfjmdhokeanpaaW.PrintLast Go.Proofs.YtcfjmdhokeanpaaW.PrintMore Go.Proofs.Ytcfjmdhokeanpaa.P
set_option linter.unusedVariables false
set_option linter.unusedSimpArgs false
theorem pure_holds : Pure := by
  intro s h0 
  by_cases c : (s.size : Int) > 1048576
  · exact ⟨0, by unfold laws_FnExactUnHex.f; rw [if_pos c]⟩
  · obtain ⟨K1, e1⟩ := Ev.get (spec_UnHex_ev s (by omega))
    obtain ⟨K2, e2⟩ := Ev.get (impl_UnHex_ev s (by omega))
    refine ⟨K1 + K2, ?_⟩
    unfold laws_FnExactUnHex.f
    rw [if_neg c, e1 _ (by omega), Option.bind_some, e2 _ (by omega), Option.bind_some, if_pos rfl, if_neg (by simp)]
end Go.Proofs.Ytcfjmdhokeanpaa.fnExactUnHex
namespace Go.Proofs.Ytcfjmdhokeanpaa
theorem fnExactUnHex_holds : Rows.FnExactUnHexSaid := fnExactUnHex.proved fnExactUnHex.pure_holds
#print axioms fnExactUnHex_holds
end Go.Proofs.Ytcfjmdhokeanpaa
