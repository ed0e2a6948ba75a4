/- FnMeets: pairs meet orders just where each order that asks for a value finds it, and the program's answer is the reference's. No condition. -/
import Derived.Test.YtifikhcpojdhmaaLawFnMeets
import Derived.Test.YtifikhcpojdhmaaDrawOps
import Derived.Test.YtifikhcpojdhmaaPx0
import Derived.Test.YtifikhcpojdhmaaPx10
import Derived.Test.YtifikhcpojdhmaaPx16
import Derived.Test.YtifikhcpojdhmaaPx4
namespace Go.Proofs.Ytifikhcpojdhmaa.fnMeets
open Go.RowKit Go.Proofs.YtifikhcpojdhmaaW.PrintWords Go.Proofs.YtifikhcpojdhmaaW.PrintLast Go.Proofs.YtifikhcpojdhmaaW.PrintMore Go.Proofs.Ytifikhcpojdhmaa.P
set_option linter.unusedVariables false
set_option linter.unusedSimpArgs false
theorem pure_holds : Pure := by
  intro l h0
  by_cases c : (l.length : Int) > 1048576
  · refine ⟨0, ?_⟩
    unfold laws_FnMeets.f laws_big.f
    rw [Option.bind_some, if_pos (by simpa using c)]
  · obtain ⟨m, x, e1, hm, hx⟩ := DrawMeets_some l (by omega)
    obtain ⟨K1, e1⟩ := Ev.get e1
    obtain ⟨r, hr⟩ : ∃ r, r = meetsM m x x.length 0 := ⟨_, rfl⟩
    obtain ⟨K2, e2⟩ := Ev.get (hr ▸ impl_Meets_ev m (by omega) x (by omega))
    obtain ⟨K3, e3⟩ := Ev.get (hr ▸ spec_Meets_ev m (by omega) x (by omega))
    have hloop : ∀ (d i : Nat) (b : Bool), x.length - i = d → i ≤ x.length → r = (b && meetsM m x d i) → Ev (fun k => laws_FnMeets.l0 k m x b (i : Int)) true := by
      intro d
      induction d with
      | zero =>
        intro i b hd hi hb
        refine ⟨K2 + K3 + 1, fun k hk => ?_⟩
        obtain ⟨k, rfl⟩ : ∃ j, k = j + 1 := ⟨k - 1, by omega⟩
        have hrb : r = b := by rw [hb]; simp [meetsM]
        show laws_FnMeets.l0 (k + 1) _ _ _ _ = _
        simp only [laws_FnMeets.l0]
        rw [if_neg (by omega), e2 _ (by omega), Option.bind_some, if_pos (by simp [hrb]), e3 _ (by omega), Option.bind_some, hrb]
        simp
      | succ d ih =>
        intro i b hd hi hb
        rw [meetsM] at hb
        have go : ∀ b' : Bool, r = (b' && meetsM m x d (i + 1)) → Ev (fun k => laws_FnMeets.l0 k m x b' ((i : Int) + 1)) true := fun b' h => ih (i + 1) b' (by omega) (by omega) h
        by_cases c3 : (rd_T41 x (i : Int)).f0 = 3
        · rw [if_pos c3] at hb
          by_cases cv : (atM m (pairIdx m (rd_T41 x (i : Int)).f1.toList 0)).1.toList = (rd_T41 x (i : Int)).f2.toList
          · rw [if_pos cv] at hb
            by_cases ce : (rd_T41 x (i : Int)).f2.toList = ([] : List UInt8)
            · rw [if_pos ce] at hb
              by_cases cg : (atM m (pairIdx m (rd_T41 x (i : Int)).f1.toList 0)).2 = true
              · rw [if_pos cg] at hb
                refine Ev.up (go false (by rw [hb]; simp)) (fun k hk => ?_)
                simp only [laws_FnMeets.l0]
                rw [if_pos (by omega), if_pos (by omega), impl_GetKey_eq, Option.bind_some, if_pos c3, if_pos cv, if_pos ce, if_pos cg, w64 (by omega) (by omega)]
                exact hk
              · rw [if_neg cg] at hb
                refine Ev.up (go b hb) (fun k hk => ?_)
                simp only [laws_FnMeets.l0]
                rw [if_pos (by omega), if_pos (by omega), impl_GetKey_eq, Option.bind_some, if_pos c3, if_pos cv, if_pos ce, if_neg cg, w64 (by omega) (by omega)]
                exact hk
            · rw [if_neg ce] at hb
              by_cases cg : (atM m (pairIdx m (rd_T41 x (i : Int)).f1.toList 0)).2 = true
              · rw [if_pos cg] at hb
                refine Ev.up (go b hb) (fun k hk => ?_)
                simp only [laws_FnMeets.l0]
                rw [if_pos (by omega), if_pos (by omega), impl_GetKey_eq, Option.bind_some, if_pos c3, if_pos cv, if_neg ce, if_pos cg, w64 (by omega) (by omega)]
                exact hk
              · rw [if_neg cg] at hb
                refine Ev.up (go false (by rw [hb]; simp)) (fun k hk => ?_)
                simp only [laws_FnMeets.l0]
                rw [if_pos (by omega), if_pos (by omega), impl_GetKey_eq, Option.bind_some, if_pos c3, if_pos cv, if_neg ce, if_neg cg, w64 (by omega) (by omega)]
                exact hk
          · rw [if_neg cv] at hb
            have hf : r = false := by rw [hb]; (repeat' split) <;> simp
            refine Ev.up (go false (by rw [hf]; simp)) (fun k hk => ?_)
            simp only [laws_FnMeets.l0]
            rw [if_pos (by omega), if_pos (by omega), impl_GetKey_eq, Option.bind_some, if_pos c3, if_neg cv, w64 (by omega) (by omega)]
            exact hk
        · rw [if_neg c3] at hb
          refine Ev.up (go b hb) (fun k hk => ?_)
          simp only [laws_FnMeets.l0]
          rw [if_pos (by omega), if_pos (by omega), impl_GetKey_eq, Option.bind_some, if_neg c3, w64 (by omega) (by omega)]
          exact hk
    obtain ⟨K4, e4⟩ := Ev.get (hloop _ 0 true rfl (by omega) (by rw [hr]; simp))
    refine ⟨K1 + K4, ?_⟩
    have hz : laws_FnMeets.l0 (K1 + K4) m x true 0 = some true := e4 _ (by omega)
    unfold laws_FnMeets.f laws_big.f
    rw [Option.bind_some, if_neg (by simpa using c), e1 _ (by omega), Option.bind_some, hz]
end Go.Proofs.Ytifikhcpojdhmaa.fnMeets
namespace Go.Proofs.Ytifikhcpojdhmaa
theorem fnMeets_holds : Rows.FnMeetsSaid := fnMeets.proved fnMeets.pure_holds
#print axioms fnMeets_holds
end Go.Proofs.Ytifikhcpojdhmaa
