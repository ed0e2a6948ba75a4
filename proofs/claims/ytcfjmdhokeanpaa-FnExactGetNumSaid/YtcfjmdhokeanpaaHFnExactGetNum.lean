/- FnExactGetNum: the program's GetNum answers what the reference's answers, whatever the bytes and the place, and leaves the bytes as they are. No condition. -/
import Derived.Test.YtcfjmdhokeanpaaLawFnExactGetNum
import Derived.Test.YtcfjmdhokeanpaaHelp
import Derived.Test.YtcfjmdhokeanpaaRead
import Derived.Test.YtcfjmdhokeanpaaPx15
namespace Go.Proofs.Ytcfjmdhokeanpaa.fnExactGetNum
open Go.RowKit Go.Proofs.YtcfjmdhokeanpaaW.PrintWords Go.Proofs.YtcfjmdhokeanpaaW.PrintLast Go.Proofs.YtcfjmdhokeanpaaW.PrintMore Go.Proofs.Ytcfjmdhokeanpaa.P
set_option linter.unusedVariables false
set_option linter.unusedSimpArgs false
theorem pure_holds : Pure := by
  intro l a h0 h1
  by_cases c : (l.length : Int) > 1048576
  · exact ⟨0, by unfold laws_FnExactGetNum.f; rw [if_pos c]⟩
  · have hb : By l := fun x hx => wf_u8 (h0.2 x hx)
    obtain ⟨K1, h1'⟩ := Ev.get (toByteS_ev l (by omega))
    obtain ⟨K2, h2⟩ := Ev.get (spec_GetNum_ev l hb (by omega) a (wf_i64 h1))
    obtain ⟨K3, h3⟩ := Ev.get (impl_GetNum_ev l hb (by omega) a (wf_i64 h1))
    obtain ⟨K4, h4⟩ := Ev.get (eqByteS_ev l (by omega))
    refine ⟨K1 + K2 + K3 + K4 + 1, ?_⟩
    unfold laws_FnExactGetNum.f
    rw [if_neg c, h1' _ (by omega), Option.bind_some, h2 _ (by omega), Option.bind_some, Option.bind_some, h3 _ (by omega), Option.bind_some, if_pos rfl, if_pos rfl]
    simp only [laws_FnExactGetNum.j0]
    rw [if_neg (by simp), h1' _ (by omega), Option.bind_some, h4 _ (by omega), Option.bind_some, if_pos rfl]
end Go.Proofs.Ytcfjmdhokeanpaa.fnExactGetNum
namespace Go.Proofs.Ytcfjmdhokeanpaa
theorem fnExactGetNum_holds : Rows.FnExactGetNumSaid := fnExactGetNum.proved fnExactGetNum.pure_holds
#print axioms fnExactGetNum_holds
end Go.Proofs.Ytcfjmdhokeanpaa
