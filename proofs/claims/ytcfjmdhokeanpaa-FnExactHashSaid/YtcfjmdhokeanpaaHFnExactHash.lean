/- FnExactHash: the program's Hash answers what the reference's answers. No condition. -/
import Derived.Test.YtcfjmdhokeanpaaLawFnExactHash
import Derived.Test.YtcfjmdhokeanpaaHash
import Derived.Test.YtcfjmdhokeanpaaPx3
namespace Go.Proofs.Ytcfjmdhokeanpaa.fnExactHash
open Go.RowKit Go.Proofs.YtcfjmdhokeanpaaW.PrintWords Go.Proofs.YtcfjmdhokeanpaaW.PrintLast Go.Proofs.YtcfjmdhokeanpaaW.PrintMore Go.Proofs.Ytcfjmdhokeanpaa.P
set_option linter.unusedVariables false
set_option linter.unusedSimpArgs false
theorem pure_holds : Pure := by
  intro s h0 
  by_cases c : (s.size : Int) > 1048576
  · exact ⟨0, by unfold laws_FnExactHash.f; rw [if_pos c]⟩
  · obtain ⟨K1, e1⟩ := Ev.get (spec_Hash_ev s (by omega))
    obtain ⟨K2, e2⟩ := Ev.get (impl_Hash_ev s (by omega))
    refine ⟨K1 + K2, ?_⟩
    unfold laws_FnExactHash.f
    rw [if_neg c, e1 _ (by omega), Option.bind_some, e2 _ (by omega), Option.bind_some, if_pos rfl]
end Go.Proofs.Ytcfjmdhokeanpaa.fnExactHash
namespace Go.Proofs.Ytcfjmdhokeanpaa
theorem fnExactHash_holds : Rows.FnExactHashSaid := fnExactHash.proved fnExactHash.pure_holds
#print axioms fnExactHash_holds
end Go.Proofs.Ytcfjmdhokeanpaa
