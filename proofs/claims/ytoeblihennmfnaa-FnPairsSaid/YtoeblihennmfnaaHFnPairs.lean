/- FnPairs: the program's rule of rows of pairs is the reference's, and a row that keeps it is in order, each pair of it kept by the rules of one pair. No condition. -/
import Derived.Test.YtoeblihennmfnaaLawFnPairs
import Derived.Test.YtoeblihennmfnaaSorted
import Derived.Test.YtoeblihennmfnaaDrawPairs
import Derived.Test.YtoeblihennmfnaaPx0
import Derived.Test.YtoeblihennmfnaaPx30
import Derived.Test.YtoeblihennmfnaaPx6
namespace Go.Proofs.Ytoeblihennmfnaa.fnPairs
open Go.RowKit Go.Proofs.YtoeblihennmfnaaW.PrintWords Go.Proofs.YtoeblihennmfnaaW.PrintLast Go.Proofs.YtoeblihennmfnaaW.PrintMore Go.Proofs.Ytoeblihennmfnaa.P
set_option linter.unusedVariables false
set_option linter.unusedSimpArgs false
theorem pure_holds : Pure := by
  intro l h0
  by_cases c : (l.length : Int) > 1048576
  · refine ⟨0, ?_⟩
    unfold laws_FnPairs.f laws_big.f
    rw [Option.bind_some, if_pos (by simpa using c)]
  · obtain ⟨m, e1, hp, hl⟩ := DrawPairsOk_some l (by omega)
    obtain ⟨K1, e1⟩ := Ev.get e1
    have hsz : ∀ p ∈ m, p.f0.size ≤ 140737488355328 := fun p h => by have := (hp p h).1; omega
    obtain ⟨K2, e2⟩ := Ev.get (impl_PairsOk_ev m (by omega) hsz)
    obtain ⟨K3, e3⟩ := Ev.get (spec_PairsOk_ev m (by omega) hsz)
    obtain ⟨b, hb⟩ : ∃ b, b = pokM m m.length 0 := ⟨_, rfl⟩
    rw [← hb] at e2 e3
    have hloop : ∀ d i : Nat, m.length - i = d → i ≤ m.length → Ev (fun k => laws_FnPairs.l0 k m b (i : Int)) true := by
      intro d
      induction d with
      | zero =>
        intro i hd hi
        refine Ev.up (Ev.up (Ev.now true) (fun k _ => ?_) : Ev (fun k => laws_FnPairs.j1 k m b (i : Int) false) true) (fun k hk => ?_)
        · simp only [laws_FnPairs.j1]
          rw [if_neg (by simp)]
        · simp only [laws_FnPairs.l0]
          rw [if_neg (by omega)]
          exact hk
      | succ d ih =>
        intro i hd hi
        have hil : i < m.length := by omega
        cases b with
        | false =>
          refine Ev.up (Ev.up (Ev.now true) (fun k _ => ?_) : Ev (fun k => laws_FnPairs.j1 k m false (i : Int) false) true) (fun k hk => ?_)
          · simp only [laws_FnPairs.j1]
            rw [if_neg (by simp)]
          · simp only [laws_FnPairs.l0]
            rw [if_pos (by omega)]
            exact hk
        | true =>
          obtain ⟨ho, hs⟩ := pokM_all m m.length 0 hb.symm i (by omega) (by omega)
          have hk0 : keyOkM (rd_T57 m (i : Int)).f0 = true := by
            have h := ho
            unfold pairOkM at h
            exact (Bool.and_eq_true _ _ ▸ h : _ ∧ _).1
          have hz : (rd_T57 m (i : Int)).f0.size ≤ 140737488355328 := by rw [rd_57_nat m i hil]; exact hsz _ (List.getElem_mem hil)
          obtain ⟨K4, e4⟩ := Ev.get (impl_PairOk_ev (rd_T57 m (i : Int)).f0 (rd_T57 m (i : Int)).f1 hz)
          obtain ⟨K5, e5⟩ := Ev.get (impl_KeyOk_ev (rd_T57 m (i : Int)).f0 hz)
          obtain ⟨K6, e6⟩ := Ev.get (ih (i + 1) (by omega) (by omega))
          refine ⟨K4 + K5 + K6 + 2, fun k hk => ?_⟩
          obtain ⟨k, rfl⟩ : ∃ j, k = j + 2 := ⟨k - 2, by omega⟩
          have hx : laws_FnPairs.l0 k m true ((i : Int) + 1) = some true := e6 k (by omega)
          show laws_FnPairs.l0 (k + 2) _ _ _ = _
          simp only [laws_FnPairs.l0]
          rw [if_pos (by omega)]
          simp only [laws_FnPairs.j1]
          rw [if_pos trivial, if_pos (by omega), if_pos (by omega), e4 _ (by omega), Option.bind_some, if_pos ho, e5 _ (by omega), Option.bind_some, if_pos hk0, w64 (x := (i : Int) + 1) (by omega) (by omega)]
          by_cases c2 : (i : Int) > 0
          · rw [if_pos c2, w64 (by omega) (by omega), if_pos (by omega), if_pos (by omega), if_pos (hs c2)]
            exact hx
          · rw [if_neg c2]
            exact hx
    obtain ⟨K7, e7⟩ := Ev.get (hloop _ 0 rfl (by omega))
    refine ⟨K1 + K2 + K3 + K7, ?_⟩
    have hx : laws_FnPairs.l0 (K1 + K2 + K3 + K7) m b 0 = some true := e7 _ (by omega)
    unfold laws_FnPairs.f laws_big.f
    rw [Option.bind_some, if_neg (by simpa using c), e1 _ (by omega), Option.bind_some, e2 _ (by omega), Option.bind_some, e3 _ (by omega), Option.bind_some, if_neg (by simp), hx]
end Go.Proofs.Ytoeblihennmfnaa.fnPairs
namespace Go.Proofs.Ytoeblihennmfnaa
theorem fnPairs_holds : Rows.FnPairsSaid := fnPairs.proved fnPairs.pure_holds
#print axioms fnPairs_holds
end Go.Proofs.Ytoeblihennmfnaa
