/- FnExactPutText: the program's PutText answers what the reference's answers, leaves its arguments as they are, and hands back memory of its own. No condition. -/
import Derived.Test.YtcfjmdhokeanpaaLawFnExactPutText
import Derived.Test.YtcfjmdhokeanpaaHelp
import Derived.Test.YtcfjmdhokeanpaaBytes
import Derived.Test.YtcfjmdhokeanpaaPx24
namespace Go.Proofs.Ytcfjmdhokeanpaa.fnExactPutText
open Go.RowKit Go.Proofs.YtcfjmdhokeanpaaW.PrintWords Go.Proofs.YtcfjmdhokeanpaaW.PrintLast Go.Proofs.YtcfjmdhokeanpaaW.PrintMore Go.Proofs.Ytcfjmdhokeanpaa.P
set_option linter.unusedVariables false
set_option linter.unusedSimpArgs false
theorem pure_holds : Pure := by
  intro l a h0 h1
  by_cases c : (l.length : Int) > 1048576
  · exact ⟨0, by unfold laws_FnExactPutText.f; rw [if_pos c]⟩
  by_cases c2 : (a.size : Int) > 1048576
  · exact ⟨0, by unfold laws_FnExactPutText.f; rw [if_neg c, if_pos c2]⟩
  ·
    have hb : By l := fun x hx => wf_u8 (h0.2 x hx)
    obtain ⟨r, hr⟩ : ∃ r, r = putTextM l a := ⟨_, rfl⟩
    have hll : r.length ≤ l.length + 5 + a.size := by rw [hr]; exact putTextM_len l a
    obtain ⟨K2, e2⟩ := Ev.get (hr ▸ spec_PutText_ev l a (by omega) (by omega))
    obtain ⟨K3, e3⟩ := Ev.get (hr ▸ impl_PutText_ev l a (by omega) (by omega))
    have hrl : r.length ≤ 100000000000 := by omega
    obtain ⟨K1, e1⟩ := Ev.get (toByteS_ev l (by omega))
    obtain ⟨K4, e4⟩ := Ev.get (eqByteS_ev l (by omega))
    obtain ⟨K5, e5⟩ := Ev.get (eqByteS_ev r (by omega))
    obtain ⟨K6, e6⟩ := Ev.get (markByteS_ev l 1 (by omega) (by omega) (by omega))
    obtain ⟨K7, e7⟩ := Ev.get (markByteS_ev r 1 (by omega) (by omega) (by omega))
    obtain ⟨K8, e8⟩ := Ev.get (heldByteS_ev r.length 1 (by omega) (by omega) (by omega))
    refine ⟨K1 + K2 + K3 + K4 + K5 + K6 + K7 + K8 + 1, ?_⟩
    unfold laws_FnExactPutText.f
    rw [if_neg c, if_neg c2, e1 _ (by omega), Option.bind_some, e2 _ (by omega), Option.bind_some, Option.bind_some, e3 _ (by omega), Option.bind_some, e5 _ (by omega), Option.bind_some, if_pos rfl, Option.bind_some, e4 _ (by omega), Option.bind_some, if_pos rfl, e6 _ (by omega), Option.bind_some, if_neg (by simp only; omega), Option.bind_some]
    simp only [laws_FnExactPutText.j0]
    rw [if_neg (by simp), e7 _ (by omega), Option.bind_some, e8 _ (by omega), Option.bind_some, if_neg (by omega), if_pos rfl, e1 _ (by omega), Option.bind_some, e3 _ (by omega), Option.bind_some, e5 _ (by omega), Option.bind_some, if_pos rfl, Option.bind_some, if_neg (by omega), if_pos rfl]
end Go.Proofs.Ytcfjmdhokeanpaa.fnExactPutText
namespace Go.Proofs.Ytcfjmdhokeanpaa
theorem fnExactPutText_holds : Rows.FnExactPutTextSaid := fnExactPutText.proved fnExactPutText.pure_holds
#print axioms fnExactPutText_holds
end Go.Proofs.Ytcfjmdhokeanpaa
