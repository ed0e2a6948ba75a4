/- FnClashes: two drawn texts clash in as many first bytes as their digests have alike, if they are unlike. No condition. -/
import Derived.Test.YtnjifkljamdfdaaLawFnClashes
import Derived.Test.YtnjifkljamdfdaaClash
import Derived.Test.YtnjifkljamdfdaaPx12
import Derived.Test.YtnjifkljamdfdaaPx15
namespace Go.Proofs.Ytnjifkljamdfdaa.fnClashes
open Go.RowKit Go.Proofs.YtnjifkljamdfdaaW.PrintWords Go.Proofs.YtnjifkljamdfdaaW.PrintLast Go.Proofs.YtnjifkljamdfdaaW.PrintMore Go.Proofs.Ytnjifkljamdfdaa.P
set_option linter.unusedVariables false
set_option linter.unusedSimpArgs false
theorem pure_holds : Pure := by
  intro l h0
  by_cases c : (l.length : Int) > 1048576
  · refine ⟨0, ?_⟩
    unfold laws_FnClashes.f laws_big.f
    rw [Option.bind_some, if_pos (by simpa using c)]
  · obtain ⟨a, b, n, e1, ha, hb, hn1, hn2⟩ := DrawIsClash_some l (by omega)
    obtain ⟨K1, e1⟩ := Ev.get e1
    obtain ⟨K2, e2⟩ := Ev.get (impl_IsClash_ev a b n (by omega) (by omega))
    obtain ⟨K3, e3⟩ := Ev.get (spec_IsClash_ev a b n (by omega) (by omega))
    obtain ⟨K4, e4⟩ := Ev.get (impl_IsClash_ev b a n (by omega) (by omega))
    obtain ⟨K5, e5⟩ := Ev.get (impl_IsClash_ev a a n (by omega) (by omega))
    obtain ⟨K6, e6⟩ := Ev.get (impl_IsClash_ev a b (n - 1) (by omega) (by omega))
    rw [clashM_comm b a] at e4
    rw [clashM_self] at e5
    refine ⟨K1 + K2 + K3 + K4 + K5 + K6, ?_⟩
    unfold laws_FnClashes.f laws_big.f
    rw [Option.bind_some, if_neg (by simpa using c), e1 _ (by omega), Option.bind_some, e2 _ (by omega), Option.bind_some, e3 _ (by omega), Option.bind_some, if_neg (by simp), e4 _ (by omega), Option.bind_some, if_neg (by simp), e5 _ (by omega), Option.bind_some, if_neg (by simp)]
    by_cases hc : clashM a b n = true
    · rw [if_pos hc]
      by_cases hz : n = 0
      · rw [if_pos hz]
      · rw [if_neg hz, w64 (by show _ ≤ n - 1; omega) (by show n - 1 ≤ _; omega), e6 _ (by omega), Option.bind_some, clashM_less hc hz]
    · rw [if_neg hc]
end Go.Proofs.Ytnjifkljamdfdaa.fnClashes
namespace Go.Proofs.Ytnjifkljamdfdaa
theorem fnClashes_holds : Rows.FnClashesSaid := fnClashes.proved fnClashes.pure_holds
#print axioms fnClashes_holds
end Go.Proofs.Ytnjifkljamdfdaa
