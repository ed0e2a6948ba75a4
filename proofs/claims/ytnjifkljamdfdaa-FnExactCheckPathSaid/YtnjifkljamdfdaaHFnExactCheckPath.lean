/- FnExactCheckPath: the program's CheckPath answers what the reference's answers and leaves its arguments as they are. No condition. -/
import Derived.Test.YtnjifkljamdfdaaLawFnExactCheckPath
import Derived.Test.YtnjifkljamdfdaaPath
import Derived.Test.YtnjifkljamdfdaaPx19
import Derived.Test.YtnjifkljamdfdaaPx61
namespace Go.Proofs.Ytnjifkljamdfdaa.fnExactCheckPath
open Go.RowKit Go.Proofs.YtnjifkljamdfdaaW.PrintWords Go.Proofs.YtnjifkljamdfdaaW.PrintLast Go.Proofs.YtnjifkljamdfdaaW.PrintMore Go.Proofs.Ytnjifkljamdfdaa.P
set_option linter.unusedVariables false
set_option linter.unusedSimpArgs false
theorem pure_holds : Pure := by
  intro p i n t s h0 h1 h2 h3 h4
  by_cases c : (s.size : Int) > 1048576
  · exact ⟨0, by unfold laws_FnExactCheckPath.f; rw [if_pos c]⟩
  have hz := szPair_eq p.f0 p.f1 1048576 (by omega) (by omega) h0.1 h0.2
  by_cases c2 : szM2 p.f0.size p.f1.size 1048576 < 0
  · exact ⟨0, by unfold laws_FnExactCheckPath.f; rw [if_neg c, hz, Option.bind_some, if_pos c2]⟩
  have hs := szM2_ok (by omega) h0.1 h0.2 c2
  obtain ⟨K0, e0⟩ := Ev.get (szStringS_ev t (szM2 p.f0.size p.f1.size 1048576) (by omega) (by omega) h3.1 h3.2)
  by_cases cz : szStrM t (szM2 p.f0.size p.f1.size 1048576) < 0
  · refine ⟨K0, ?_⟩
    unfold laws_FnExactCheckPath.f
    rw [if_neg c, hz, Option.bind_some, if_neg c2, e0 _ (by omega), Option.bind_some, if_pos cz]
  · have hz2 := szStrM_ok cz
    have hf : FewS t := fun x hx => by have := size_le_sum hx; omega
    obtain ⟨r, hr⟩ : ∃ r, r = checkM (leafB p.f0 p.f1) i n t s := ⟨_, rfl⟩
    obtain ⟨K1, e1⟩ := Ev.get (toStringS_ev t (by omega))
    obtain ⟨K2, e2⟩ := Ev.get (hr ▸ spec_CheckPath_ev p.f0 p.f1 (by omega) (by omega) i n (wf_i64 h2) t hf (by omega) s)
    obtain ⟨K3, e3⟩ := Ev.get (hr ▸ impl_CheckPath_ev p.f0 p.f1 (by omega) (by omega) i n (wf_i64 h2) t hf (by omega) s)
    obtain ⟨K4, e4⟩ := Ev.get (eqStringS_ev t (by omega))
    refine ⟨K0 + K1 + K2 + K3 + K4, ?_⟩
    unfold laws_FnExactCheckPath.f laws_toPair.f
    rw [if_neg c, hz, Option.bind_some, if_neg c2, e0 _ (by omega), Option.bind_some, if_neg cz, Option.bind_some, e1 _ (by omega), Option.bind_some, e2 _ (by omega), Option.bind_some, Option.bind_some, Option.bind_some, e3 _ (by omega), Option.bind_some, if_neg (by simp), Option.bind_some, e4 _ (by omega), Option.bind_some, if_pos rfl]
end Go.Proofs.Ytnjifkljamdfdaa.fnExactCheckPath
namespace Go.Proofs.Ytnjifkljamdfdaa
theorem fnExactCheckPath_holds : Rows.FnExactCheckPathSaid := fnExactCheckPath.proved fnExactCheckPath.pure_holds
#print axioms fnExactCheckPath_holds
end Go.Proofs.Ytnjifkljamdfdaa
