/- FnExactShardOf: the program's ShardOf answers what the reference's answers. No condition. -/
import Derived.Test.YtcfjmdhokeanpaaLawFnExactShardOf
import Derived.Test.YtcfjmdhokeanpaaHash
import Derived.Test.YtcfjmdhokeanpaaPx7
namespace Go.Proofs.Ytcfjmdhokeanpaa.fnExactShardOf
open Go.RowKit Go.Proofs.YtcfjmdhokeanpaaW.PrintWords Go.Proofs.YtcfjmdhokeanpaaW.PrintLast Go.Proofs.YtcfjmdhokeanpaaW.PrintMore Go.Proofs.Ytcfjmdhokeanpaa.P
set_option linter.unusedVariables false
set_option linter.unusedSimpArgs false
theorem pure_holds : Pure := by
  intro s n h0 h1
  by_cases c : (s.size : Int) > 1048576
  · exact ⟨0, by unfold laws_FnExactShardOf.f; rw [if_pos c]⟩
  · obtain ⟨K1, e1⟩ := Ev.get (spec_ShardOf_ev s (by omega) n)
    obtain ⟨K2, e2⟩ := Ev.get (impl_ShardOf_ev s (by omega) n)
    refine ⟨K1 + K2, ?_⟩
    unfold laws_FnExactShardOf.f
    rw [if_neg c, e1 _ (by omega), Option.bind_some, e2 _ (by omega), Option.bind_some, if_pos rfl]
end Go.Proofs.Ytcfjmdhokeanpaa.fnExactShardOf
namespace Go.Proofs.Ytcfjmdhokeanpaa
theorem fnExactShardOf_holds : Rows.FnExactShardOfSaid := fnExactShardOf.proved fnExactShardOf.pure_holds
#print axioms fnExactShardOf_holds
end Go.Proofs.Ytcfjmdhokeanpaa
