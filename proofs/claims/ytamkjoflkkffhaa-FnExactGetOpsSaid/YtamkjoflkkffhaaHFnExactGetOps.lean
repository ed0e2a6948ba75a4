/- FnExactGetOps: the program's GetOps answers what the reference's answers, leaves the bytes as they are, and hands back memory of its own. No condition. -/
import Derived.Test.YtamkjoflkkffhaaLawFnExactGetOps
import Derived.Test.YtamkjoflkkffhaaGetOps
import Derived.Test.YtamkjoflkkffhaaHelp
import Derived.Test.YtamkjoflkkffhaaLists
import Derived.Test.YtamkjoflkkffhaaPx44
namespace Go.Proofs.Ytamkjoflkkffhaa.fnExactGetOps
open Go.RowKit Go.Proofs.YtamkjoflkkffhaaW.PrintWords Go.Proofs.YtamkjoflkkffhaaW.PrintLast Go.Proofs.YtamkjoflkkffhaaW.PrintMore Go.Proofs.Ytamkjoflkkffhaa.P
set_option linter.unusedVariables false
set_option linter.unusedSimpArgs false
theorem pure_holds : Pure := by
  intro l h0
  by_cases c : (l.length : Int) > 1048576
  · exact ⟨0, by unfold laws_FnExactGetOps.f; rw [if_pos c]⟩
  · have hb : By l := fun x hx => wf_u8 (h0.2 x hx)
    obtain ⟨r, hr⟩ : ∃ r, r = getOpsM l := ⟨_, rfl⟩
    have hrl : r.1.length ≤ 8 := by rw [hr]; exact getOpsM_len hb
    obtain ⟨K1, e1⟩ := Ev.get (toByteS_ev l (by omega))
    obtain ⟨K2, e2⟩ := Ev.get (hr ▸ spec_GetOps_ev l hb (by omega))
    obtain ⟨K3, e3⟩ := Ev.get (hr ▸ impl_GetOps_ev l hb (by omega))
    obtain ⟨K4, e4⟩ := Ev.get (eqByteS_ev l (by omega))
    obtain ⟨K5, e5⟩ := Ev.get (eqOpS_ev r.1 (by omega))
    obtain ⟨K6, e6⟩ := Ev.get (markByteS_ev l 1 (by omega) (by omega) (by omega))
    obtain ⟨K7, e7⟩ := Ev.get (markOpS_ev r.1 1 (by omega) (by omega) (by omega))
    obtain ⟨K8, e8⟩ := Ev.get (heldOpS_ev r.1.length 1 (by omega) (by omega) (by omega))
    have hb2 : (r.2 != r.2) = false := by simp
    refine ⟨K1 + K2 + K3 + K4 + K5 + K6 + K7 + K8 + 3, ?_⟩
    generalize hK : K1 + K2 + K3 + K4 + K5 + K6 + K7 + K8 = K
    unfold laws_FnExactGetOps.f
    rw [if_neg c, e1 _ (by omega), Option.bind_some, e2 _ (by omega), Option.bind_some, Option.bind_some, e3 _ (by omega), Option.bind_some, e5 _ (by omega), Option.bind_some, if_pos rfl, hb2]
    simp only [laws_FnExactGetOps.j0]
    rw [if_neg (by simp), e1 _ (by omega), Option.bind_some, e4 _ (by omega), Option.bind_some, if_pos rfl, e6 _ (by omega), Option.bind_some, if_neg (by simp only; omega), e5 _ (by omega), Option.bind_some, if_pos rfl, hb2]
    simp only [laws_FnExactGetOps.j1]
    rw [if_neg (by simp), e7 _ (by omega), Option.bind_some, e8 _ (by omega), Option.bind_some, if_neg (by omega), if_pos rfl, e1 _ (by omega), Option.bind_some, e3 _ (by omega), Option.bind_some, e5 _ (by omega), Option.bind_some, if_pos rfl, hb2]
    simp only [laws_FnExactGetOps.j2]
    rw [if_neg (by simp), e8 _ (by omega), Option.bind_some, if_neg (by omega), if_pos rfl]
end Go.Proofs.Ytamkjoflkkffhaa.fnExactGetOps
namespace Go.Proofs.Ytamkjoflkkffhaa
theorem fnExactGetOps_holds : Rows.FnExactGetOpsSaid := fnExactGetOps.proved fnExactGetOps.pure_holds
#print axioms fnExactGetOps_holds
end Go.Proofs.Ytamkjoflkkffhaa
