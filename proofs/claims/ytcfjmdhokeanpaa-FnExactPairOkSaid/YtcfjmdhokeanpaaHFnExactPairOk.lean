/- FnExactPairOk: the program's PairOk answers what the reference's answers. No condition. -/
import Derived.Test.YtcfjmdhokeanpaaLawFnExactPairOk
import Derived.Test.YtcfjmdhokeanpaaSizes
import Derived.Test.YtcfjmdhokeanpaaKeys
import Derived.Test.YtcfjmdhokeanpaaPx11
import Derived.Test.YtcfjmdhokeanpaaPx12
namespace Go.Proofs.Ytcfjmdhokeanpaa.fnExactPairOk
open Go.RowKit Go.Proofs.YtcfjmdhokeanpaaW.PrintWords Go.Proofs.YtcfjmdhokeanpaaW.PrintLast Go.Proofs.YtcfjmdhokeanpaaW.PrintMore Go.Proofs.Ytcfjmdhokeanpaa.P
set_option linter.unusedVariables false
set_option linter.unusedSimpArgs false
theorem pure_holds : Pure := by
  intro p h0
  have hz := szPair_eq p.f0 p.f1 1048576 (by omega) (by omega) h0.1 h0.2
  by_cases c : szM2 p.f0.size p.f1.size 1048576 < 0
  · exact ⟨0, by unfold laws_FnExactPairOk.f; rw [hz, Option.bind_some, if_pos c]⟩
  · have hs := szM2_ok (by omega) h0.1 h0.2 c
    obtain ⟨K1, e1⟩ := Ev.get (spec_PairOk_ev p.f0 p.f1 (by omega))
    obtain ⟨K2, e2⟩ := Ev.get (impl_PairOk_ev p.f0 p.f1 (by omega))
    refine ⟨K1 + K2, ?_⟩
    unfold laws_FnExactPairOk.f laws_toPair.f
    rw [hz, Option.bind_some, if_neg c, Option.bind_some, e1 _ (by omega), Option.bind_some, Option.bind_some, e2 _ (by omega), Option.bind_some, if_neg (by simp)]
end Go.Proofs.Ytcfjmdhokeanpaa.fnExactPairOk
namespace Go.Proofs.Ytcfjmdhokeanpaa
theorem fnExactPairOk_holds : Rows.FnExactPairOkSaid := fnExactPairOk.proved fnExactPairOk.pure_holds
#print axioms fnExactPairOk_holds
end Go.Proofs.Ytcfjmdhokeanpaa
