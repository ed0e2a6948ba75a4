import Derived.Test.YtgaalomhipfgjaaPureHFnExactCheckBetween
/- FnExactCheckBetween. -/
import Derived.Test.YtgaalomhipfgjaaLawFnExactCheckBetween
import Derived.Test.YtgaalomhipfgjaaPx0
import Derived.Test.YtgaalomhipfgjaaPx13
namespace Go.Proofs.Ytgaalomhipfgjaa.fnExactCheckBetween
open Go.RowKit Go.Proofs.YtgaalomhipfgjaaW.PrintWords Go.Proofs.YtgaalomhipfgjaaW.PrintLast Go.Proofs.YtgaalomhipfgjaaW.PrintMore Go.Proofs.Ytgaalomhipfgjaa.P
set_option linter.unusedVariables false
set_option linter.unusedSimpArgs false
theorem chkB_len (root lo hi : ByteArray) (N F : Int) (l : List S63) : (chkB root lo hi N F l).1.length ≤ l.length := by
  unfold chkB
  split
  · exact Nat.zero_le _
  · split
    · exact Nat.le_trans (List.length_filter_le _ _) (by rw [List.length_map]; exact Nat.le_refl _)
    · exact Nat.zero_le _
theorem pure_holds : Pure := by
  intro a b c y h0 h1 h2 h3
  obtain ⟨N, F, l⟩ := y
  obtain ⟨hN, hF, hl, hp⟩ := h3
  have hN' := wf_i64 hN
  have hF' := wf_i64 hF
  simp only at hN' hF' hl hp
  have hok : ∀ p ∈ l, OkIt p := fun p hq => hp p hq
  show ∃ k, laws_FnExactCheckBetween.f k a b c N F l = some true
  by_cases ca : (a.size : Int) > 1048576
  · exact ⟨0, by unfold laws_FnExactCheckBetween.f; rw [if_pos ca]⟩
  by_cases cb : (b.size : Int) > 1048576
  · exact ⟨0, by unfold laws_FnExactCheckBetween.f; rw [if_neg ca, if_pos cb]⟩
  by_cases cc : (c.size : Int) > 1048576
  · exact ⟨0, by unfold laws_FnExactCheckBetween.f; rw [if_neg ca, if_neg cb, if_pos cc]⟩
  obtain ⟨K0, e0⟩ := Ev.get (szProof_ev N F l hl hok)
  by_cases cz : szItSM l 1048576 < 0
  · refine ⟨K0, ?_⟩
    unfold laws_FnExactCheckBetween.f
    rw [if_neg ca, if_neg cb, if_neg cc, e0 _ (by omega), Option.bind_some, if_pos cz, if_pos (by omega)]
  · obtain ⟨hn, hs⟩ := szItSM_ok (by omega) hok cz
    obtain ⟨m, hm⟩ : ∃ m, m = l.map cvtItem := ⟨_, rfl⟩
    have hml : m.length = l.length := by rw [hm, List.length_map]
    have hsm : ∀ x ∈ m, ((x.f0.f0.size : Int) + x.f0.f1.size ≤ 1048576) ∧ ((x.f1.length : Int) ≤ 1048576) ∧ ∀ s ∈ x.f1, (s.size : Int) ≤ 1048576 := fun x hx => by
      rw [hm] at hx
      obtain ⟨q, hq, rfl⟩ := List.mem_map.1 hx
      exact hs q hq
    have hf : FewT m := ⟨by omega, fun x hx => by
      obtain ⟨g1, g2, g3⟩ := hsm x hx
      exact ⟨⟨by omega, by omega⟩, by omega, fun s hs2 => by have := g3 s hs2; omega⟩⟩
    have hfi : FewI m := ⟨by omega, fun x hx => by have := (hsm x hx).2.1; omega⟩
    obtain ⟨r, hr⟩ : ∃ r, r = chkB a b c N F m := ⟨_, rfl⟩
    have hrl : r.1.length ≤ m.length := by rw [hr]; exact chkB_len _ _ _ _ _ _
    have hge := mkI_ge m 1
    obtain ⟨K1, e1⟩ := Ev.get (hm ▸ toProof_ev N F l (by omega) (fun p hq => by have := (hs p hq).2.1; omega))
    obtain ⟨K2, e2⟩ := Ev.get (hr ▸ spec_CheckBetween_ev a b c N F hN' m hf)
    obtain ⟨K3, e3⟩ := Ev.get (hr ▸ impl_CheckBetween_ev a b c N F hN' m hf)
    obtain ⟨K5, e5⟩ := Ev.get (eqPairS_ev r.1 (by omega))
    obtain ⟨K6, e6⟩ := Ev.get (eqProof_ev N F m hfi)
    obtain ⟨K7, e7⟩ := Ev.get (markProof_ev N F m hfi)
    obtain ⟨K8, e8⟩ := Ev.get (markPairS_ev r.1 1 (by omega) (by omega) (by omega))
    obtain ⟨K9, e9⟩ := Ev.get (heldPairS_ev r.1.length 1 (by omega) (by omega) (by omega))
    have hb2 : (r.2 != r.2) = false := by simp
    refine ⟨K0 + K1 + K2 + K3 + K5 + K6 + K7 + K8 + K9 + 3, ?_⟩
    generalize hK : K0 + K1 + K2 + K3 + K5 + K6 + K7 + K8 + K9 = K
    unfold laws_FnExactCheckBetween.f
    rw [if_neg ca, if_neg cb, if_neg cc, e0 _ (by omega), Option.bind_some, if_neg cz, if_neg cz, e1 _ (by omega), Option.bind_some, e2 _ (by omega), Option.bind_some, Option.bind_some, e3 _ (by omega), Option.bind_some, e5 _ (by omega), Option.bind_some, if_pos rfl, hb2]
    simp only [laws_FnExactCheckBetween.j0]
    rw [if_neg (by simp), e1 _ (by omega), Option.bind_some, e6 _ (by omega), Option.bind_some, if_pos rfl, e7 _ (by omega), Option.bind_some, if_neg (by simp only; omega), e5 _ (by omega), Option.bind_some, if_pos rfl, hb2]
    simp only [laws_FnExactCheckBetween.j1]
    rw [if_neg (by simp), e8 _ (by omega), Option.bind_some, e9 _ (by omega), Option.bind_some, if_neg (by omega), if_pos rfl, e1 _ (by omega), Option.bind_some, e3 _ (by omega), Option.bind_some, e5 _ (by omega), Option.bind_some, if_pos rfl, hb2]
    simp only [laws_FnExactCheckBetween.j2]
    rw [if_neg (by simp), e9 _ (by omega), Option.bind_some, if_neg (by omega), if_pos rfl]
end Go.Proofs.Ytgaalomhipfgjaa.fnExactCheckBetween
namespace Go.Proofs.Ytgaalomhipfgjaa
theorem fnExactCheckBetween_holds : Rows.FnExactCheckBetweenSaid := fnExactCheckBetween.proved fnExactCheckBetween.pure_holds
#print axioms fnExactCheckBetween_holds
end Go.Proofs.Ytgaalomhipfgjaa
