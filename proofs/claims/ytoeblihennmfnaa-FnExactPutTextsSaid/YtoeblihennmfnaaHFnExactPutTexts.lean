/- FnExactPutTexts: the program's PutTexts answers what the reference's answers, leaves its arguments as they are, and hands back memory of its own. No condition. -/
import Derived.Test.YtoeblihennmfnaaLawFnExactPutTexts
import Derived.Test.YtoeblihennmfnaaCols
import Derived.Test.YtoeblihennmfnaaPx37
namespace Go.Proofs.Ytoeblihennmfnaa.fnExactPutTexts
open Go.RowKit Go.Proofs.YtoeblihennmfnaaW.PrintWords Go.Proofs.YtoeblihennmfnaaW.PrintLast Go.Proofs.YtoeblihennmfnaaW.PrintMore Go.Proofs.Ytoeblihennmfnaa.P
set_option linter.unusedVariables false
set_option linter.unusedSimpArgs false
theorem pure_holds : Pure := by
  intro l t h0 h1
  by_cases c : (l.length : Int) > 1048576
  · exact ⟨0, by unfold laws_FnExactPutTexts.f; rw [if_pos c]⟩
  obtain ⟨K0, e0⟩ := Ev.get (szStringS_ev t 1048576 (by omega) (by omega) h1.1 h1.2)
  by_cases cz : szStrM t 1048576 < 0
  · refine ⟨K0, ?_⟩
    unfold laws_FnExactPutTexts.f
    rw [if_neg c, e0 _ (by omega), Option.bind_some, if_pos cz]
  · have hz := szStrM_ok cz
    have hsum : sumSz t = (t.map ByteArray.size).sum := rfl
    obtain ⟨r, hr⟩ : ∃ r, r = putTextsM l t := ⟨_, rfl⟩
    have hll := putTextsM_len l t
    rw [← hr] at hll
    have hrl : r.length ≤ 100000000 := by omega
    obtain ⟨K1, e1⟩ := Ev.get (toByteS_ev l (by omega))
    obtain ⟨K9, e9⟩ := Ev.get (toStringS_ev t (by omega))
    obtain ⟨K2, e2⟩ := Ev.get (hr ▸ spec_PutTexts_ev l t (by omega) (by omega) (by omega))
    obtain ⟨K3, e3⟩ := Ev.get (hr ▸ impl_PutTexts_ev l t (by omega) (by omega) (by omega))
    obtain ⟨K4, e4⟩ := Ev.get (eqByteS_ev l (by omega))
    obtain ⟨K5, e5⟩ := Ev.get (eqByteS_ev r (by omega))
    obtain ⟨K10, e10⟩ := Ev.get (eqStringS_ev t (by omega))
    obtain ⟨K6, e6⟩ := Ev.get (markByteS_ev l 1 (by omega) (by omega) (by omega))
    obtain ⟨K11, e11⟩ := Ev.get (markStringS_ev t (1 + l.length) (by omega) (by omega) (by omega))
    obtain ⟨K7, e7⟩ := Ev.get (markByteS_ev r 1 (by omega) (by omega) (by omega))
    obtain ⟨K8, e8⟩ := Ev.get (heldByteS_ev r.length 1 (by omega) (by omega) (by omega))
    refine ⟨K0 + K1 + K2 + K3 + K4 + K5 + K6 + K7 + K8 + K9 + K10 + K11 + 1, ?_⟩
    unfold laws_FnExactPutTexts.f
    rw [if_neg c, e0 _ (by omega), Option.bind_some, if_neg cz, e1 _ (by omega), Option.bind_some, e9 _ (by omega), Option.bind_some, e2 _ (by omega), Option.bind_some, Option.bind_some, Option.bind_some, e3 _ (by omega), Option.bind_some, e5 _ (by omega), Option.bind_some, if_pos rfl, Option.bind_some, e4 _ (by omega), Option.bind_some, if_pos rfl, Option.bind_some, e10 _ (by omega), Option.bind_some, if_pos rfl, e6 _ (by omega), Option.bind_some, e11 _ (by omega), Option.bind_some, if_neg (by simp only; omega), Option.bind_some]
    simp only [laws_FnExactPutTexts.j0]
    rw [if_neg (by simp), e7 _ (by omega), Option.bind_some, e8 _ (by omega), Option.bind_some, if_neg (by omega), if_pos rfl, e1 _ (by omega), Option.bind_some, e9 _ (by omega), Option.bind_some, e3 _ (by omega), Option.bind_some, e5 _ (by omega), Option.bind_some, if_pos rfl, Option.bind_some, if_neg (by omega), if_pos rfl]
end Go.Proofs.Ytoeblihennmfnaa.fnExactPutTexts
namespace Go.Proofs.Ytoeblihennmfnaa
theorem fnExactPutTexts_holds : Rows.FnExactPutTextsSaid := fnExactPutTexts.proved fnExactPutTexts.pure_holds
#print axioms fnExactPutTexts_holds
end Go.Proofs.Ytoeblihennmfnaa
