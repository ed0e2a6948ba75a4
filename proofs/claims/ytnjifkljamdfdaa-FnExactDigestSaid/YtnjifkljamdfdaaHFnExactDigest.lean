/- FnExactDigest: the program's Digest answers what the reference's answers and leaves its argument as it is. No condition. -/
import Derived.Test.YtnjifkljamdfdaaLawFnExactDigest
import Derived.Test.YtnjifkljamdfdaaHelp
import Derived.Test.YtnjifkljamdfdaaDig
import Derived.Test.YtnjifkljamdfdaaPx8
namespace Go.Proofs.Ytnjifkljamdfdaa.fnExactDigest
open Go.RowKit Go.Proofs.YtnjifkljamdfdaaW.PrintWords Go.Proofs.YtnjifkljamdfdaaW.PrintLast Go.Proofs.YtnjifkljamdfdaaW.PrintMore Go.Proofs.Ytnjifkljamdfdaa.P
set_option linter.unusedVariables false
set_option linter.unusedSimpArgs false
theorem pure_holds : Pure := by
  intro l h0
  by_cases c : (l.length : Int) > 1048576
  · exact ⟨0, by unfold laws_FnExactDigest.f; rw [if_pos c]⟩
  · have hb : By l := fun x hx => wf_u8 (h0.2 x hx)
    obtain ⟨K1, e1⟩ := Ev.get (toByteS_ev l (by omega))
    obtain ⟨K2, e2⟩ := Ev.get (spec_Digest_ev l hb (by omega))
    obtain ⟨K3, e3⟩ := Ev.get (impl_Digest_ev l (by omega))
    obtain ⟨K4, e4⟩ := Ev.get (eqByteS_ev l (by omega))
    refine ⟨K1 + K2 + K3 + K4, ?_⟩
    unfold laws_FnExactDigest.f
    rw [if_neg c, e1 _ (by omega), Option.bind_some, e2 _ (by omega), Option.bind_some, Option.bind_some, e3 _ (by omega), Option.bind_some, if_pos rfl, Option.bind_some, e4 _ (by omega), Option.bind_some, if_pos rfl]
end Go.Proofs.Ytnjifkljamdfdaa.fnExactDigest
namespace Go.Proofs.Ytnjifkljamdfdaa
theorem fnExactDigest_holds : Rows.FnExactDigestSaid := fnExactDigest.proved fnExactDigest.pure_holds
#print axioms fnExactDigest_holds
end Go.Proofs.Ytnjifkljamdfdaa
