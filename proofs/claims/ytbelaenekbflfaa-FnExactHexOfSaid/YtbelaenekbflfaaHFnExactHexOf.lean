/- FnExactHexOf: the program's HexOf answers what the reference's answers. No condition. -/
import Derived.Test.YtbelaenekbflfaaLawFnExactHexOf
import Derived.Test.YtbelaenekbflfaaHexOf
import Derived.Test.YtbelaenekbflfaaPx3
namespace Go.Proofs.Ytbelaenekbflfaa.fnExactHexOf
open Go.RowKit Go.Proofs.YtbelaenekbflfaaW.PrintWords Go.Proofs.YtbelaenekbflfaaW.PrintLast Go.Proofs.YtbelaenekbflfaaW.PrintMore Go.Proofs.Ytbelaenekbflfaa.P
set_option linter.unusedVariables false
set_option linter.unusedSimpArgs false
theorem pure_holds : Pure := by
  intro s h0 
  by_cases c : (s.size : Int) > 1048576
  · exact ⟨0, by unfold laws_FnExactHexOf.f; rw [if_pos c]⟩
  · obtain ⟨K1, e1⟩ := Ev.get (spec_HexOf_ev s (by omega))
    refine ⟨K1, ?_⟩
    unfold laws_FnExactHexOf.f
    rw [if_neg c, e1 _ (by omega), Option.bind_some, impl_HexOf_eq s (by omega), Option.bind_some, if_pos rfl]
end Go.Proofs.Ytbelaenekbflfaa.fnExactHexOf
namespace Go.Proofs.Ytbelaenekbflfaa
theorem fnExactHexOf_holds : Rows.FnExactHexOfSaid := fnExactHexOf.proved fnExactHexOf.pure_holds
#print axioms fnExactHexOf_holds
end Go.Proofs.Ytbelaenekbflfaa
