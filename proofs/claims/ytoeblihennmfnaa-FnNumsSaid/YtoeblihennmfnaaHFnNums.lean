/- FnNums: a number written is read back, kept within its bounds; cut short it is not read; a text written is read back. No condition. -/
import Derived.Test.YtoeblihennmfnaaLawFnNums
import Derived.Test.YtoeblihennmfnaaNums
import Derived.Test.YtoeblihennmfnaaDraw
import Derived.Test.YtoeblihennmfnaaPx10
import Derived.Test.YtoeblihennmfnaaPx6
namespace Go.Proofs.Ytoeblihennmfnaa.fnNums
open Go.RowKit Go.Proofs.YtoeblihennmfnaaW.PrintWords Go.Proofs.YtoeblihennmfnaaW.PrintLast Go.Proofs.YtoeblihennmfnaaW.PrintMore Go.Proofs.Ytoeblihennmfnaa.P
set_option linter.unusedVariables false
set_option linter.unusedSimpArgs false
theorem pure_holds : Pure := by
  intro l h0
  by_cases c : (l.length : Int) > 1048576
  · refine ⟨0, ?_⟩
    unfold laws_FnNums.f laws_big.f
    rw [Option.bind_some, if_pos (by simpa using c)]
  · obtain ⟨b, n, e1, hb, hl⟩ := DrawPutNum_some l (by omega)
    obtain ⟨b2, t, e2, hb2, hl2, ht⟩ := DrawPutText_some l (by omega)
    obtain ⟨K1, e1⟩ := Ev.get e1
    obtain ⟨K2, e2⟩ := Ev.get e2
    have hlen := putNumM_len b n
    have hlen0 : 1 ≤ (putNumM b n).length := by have := encN_pos (clampN n); rw [putNumM, List.length_append]; omega
    have hlen2 := putTextM_len b2 t
    have hby := putNumM_by hb n
    obtain ⟨K3, e3⟩ := Ev.get (impl_PutNum_ev b n (by omega))
    obtain ⟨K4, e4⟩ := Ev.get (impl_GetNum_ev (putNumM b n) hby (by omega) (b.length : Int) (by omega))
    have hby5 : By ((putNumM b n).take ((putNumM b n).length - 1)) := fun x hx => hby x (List.mem_of_mem_take hx)
    obtain ⟨K5, e5⟩ := Ev.get (impl_GetNum_ev ((putNumM b n).take ((putNumM b n).length - 1)) hby5 (by rw [List.length_take]; omega) (b.length : Int) (by omega))
    obtain ⟨K6, e6⟩ := Ev.get (impl_PutText_ev b2 t (by omega) (by omega))
    obtain ⟨K7, e7⟩ := Ev.get (impl_GetText_ev (putTextM b2 t) (putTextM_by hb2 t) (by omega) (b2.length : Int) (by omega))
    rw [getNumM_putNumM] at e4
    rw [getNumM_cut] at e5
    rw [getTextM_putTextM b2 t (by omega)] at e7
    have hj : ∀ k, K1 + K2 + K3 + K4 + K5 + K6 + K7 ≤ k → laws_FnNums.j1 (k + 1) l b (clampN n : Int) (putNumM b n) (clampN n : Int) ((putNumM b n).length : Int) true = some true := by
      intro k hk
      simp only [laws_FnNums.j1]
      rw [w64 (by omega) (by omega), if_pos (by omega), if_pos (by omega), show (((putNumM b n).length : Int) - 1).toNat = (putNumM b n).length - 1 by omega, e5 _ (by omega), Option.bind_some, e2 _ (by omega), Option.bind_some, e6 _ (by omega), Option.bind_some, e7 _ (by omega), Option.bind_some]
      simp
    refine ⟨K1 + K2 + K3 + K4 + K5 + K6 + K7 + 2, ?_⟩
    unfold laws_FnNums.f laws_big.f
    rw [Option.bind_some, if_neg (by simpa using c), e1 _ (by omega), Option.bind_some, e3 _ (by omega), Option.bind_some, e4 _ (by omega), Option.bind_some]
    by_cases c2 : n > 1000000000
    · rw [if_pos c2]
      simp only [laws_FnNums.j0]
      rw [if_neg (by omega)]
      have h := hj (K1 + K2 + K3 + K4 + K5 + K6 + K7) (by omega)
      have hc : (clampN n : Int) = 1000000000 := by unfold clampN; rw [if_pos c2]; rfl
      rw [hc] at h ⊢
      exact h
    · rw [if_neg c2]
      simp only [laws_FnNums.j0]
      have h := hj (K1 + K2 + K3 + K4 + K5 + K6 + K7) (by omega)
      by_cases c3 : n < 0
      · rw [if_pos c3]
        have hc : (clampN n : Int) = 0 := by unfold clampN; rw [if_neg c2, if_pos c3]; rfl
        rw [hc] at h ⊢
        exact h
      · rw [if_neg c3]
        have hc : (clampN n : Int) = n := by unfold clampN; rw [if_neg c2, if_neg c3]; omega
        rw [hc] at h ⊢
        exact h
end Go.Proofs.Ytoeblihennmfnaa.fnNums
namespace Go.Proofs.Ytoeblihennmfnaa
theorem fnNums_holds : Rows.FnNumsSaid := fnNums.proved fnNums.pure_holds
#print axioms fnNums_holds
end Go.Proofs.Ytoeblihennmfnaa
