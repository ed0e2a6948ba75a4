/- FnRoots: the root of drawn pairs turns with any of them, unless two unlike texts have one digest. No condition. -/
import Derived.Test.YtgaalomhipfgjaaLawFnRoots
import Derived.Test.YtgaalomhipfgjaaGood
import Derived.Test.YtgaalomhipfgjaaTurn
import Derived.Test.YtgaalomhipfgjaaPx0
import Derived.Test.YtgaalomhipfgjaaPx13
import Derived.Test.YtgaalomhipfgjaaPx2
namespace Go.Proofs.Ytgaalomhipfgjaa.fnRoots
open Go.RowKit Go.Proofs.YtgaalomhipfgjaaW.PrintWords Go.Proofs.YtgaalomhipfgjaaW.PrintLast Go.Proofs.YtgaalomhipfgjaaW.PrintMore Go.Proofs.Ytgaalomhipfgjaa.P
set_option linter.unusedVariables false
set_option linter.unusedSimpArgs false
theorem pure_holds : Pure := by
  intro s h0
  by_cases c : (s.length : Int) > 1048576
  · refine ⟨0, ?_⟩
    unfold laws_FnRoots.f laws_big.f
    rw [Option.bind_some, if_pos (by simpa using c)]
  obtain ⟨l, i, e, hpr, hok, hl9, hi⟩ := DrawPlace_good s (by omega)
  obtain ⟨K1, e1⟩ := Ev.get e
  have hri := hpr (rd_T26 l (i : Int)) (by rw [rdP_get l hi]; exact List.getElem_mem _)
  obtain ⟨p, hp⟩ : ∃ p : S26, p = ⟨(rd_T26 l (i : Int)).f0, ((rd_T26 l (i : Int)).f1) ++ (⟨#[33]⟩ : ByteArray)⟩ := ⟨_, rfl⟩
  have hp1 : p.f1.size = (rd_T26 l (i : Int)).f1.size + 1 := by
    rw [hp]
    show (_ ++ _ : ByteArray).size = _
    rw [ByteArray.size_append]
    rfl
  have hp0 : p.f0 = (rd_T26 l (i : Int)).f0 := by rw [hp]
  obtain ⟨m, hm⟩ : ∃ m, m = l.set i p := ⟨_, rfl⟩
  have hml : m.length = l.length := by rw [hm, List.length_set]
  have hf : FewP l := fun q hq => by have := hpr q hq; exact ⟨by omega, by omega⟩
  have hfm : FewP m := fun q hq => by
    rw [hm] at hq
    rcases List.mem_or_eq_of_mem_set hq with h1 | h1
    · exact hf q h1
    · rw [h1, hp0, hp1]; exact ⟨by omega, by omega⟩
  have hrd : rd_T26 m (i : Int) = p := by
    rw [rdP_get m (by omega)]
    simp [hm]
  obtain ⟨K2, e2⟩ := Ev.get (impl_RootOf_ev l hf.few)
  obtain ⟨K3, e3⟩ := Ev.get (impl_RootOf_ev m hfm.few)
  obtain ⟨K4, e4⟩ := Ev.get (spec_RootOf_ev l hf.few)
  obtain ⟨K5, e5⟩ := Ev.get (impl_PathOf_ev m (i : Int) (by omega) hfm.few)
  have hpath : pathOfM m (i : Int) = pathM m i := by
    unfold pathOfM
    rw [if_neg (by omega), if_pos (by omega), Int.toNat_natCast]
  rw [hpath] at e5
  obtain ⟨K6, e6⟩ := Ev.get (impl_PartAt_ev l (by omega) hf p.f0 p.f1 (by rw [hp0]; omega) (by omega) (i : Int) (m.length : Int) (by omega) (pathM m i) (pathM_few _ m i rfl) (by have := pathM_len _ m i rfl; omega))
  obtain ⟨K8, e8⟩ := Ev.get (impl_InnerOf_ev (l.take 1) (hf.few.take 1))
  have h0p := hpr (rd_T26 l 0) (by have := rdP_get l (i := 0) (by omega); rw [show ((0 : Nat) : Int) = 0 from rfl] at this; rw [this]; exact List.getElem_mem _)
  obtain ⟨K9, e9⟩ := Ev.get (impl_LeafOf_ev (rd_T26 l 0).f0 (rd_T26 l 0).f1 (by have := h0p.1; omega) (by have := h0p.2; omega))
  have hroot : rootOfM l = rootM l := by unfold rootOfM; rw [if_neg (by omega)]
  have hrootm : rootOfM m = rootM m := by unfold rootOfM; rw [if_neg (by omega)]
  have hs32 : ∀ x : List S26, (rootM x).size = 32 := fun x => digM_size _
  -- the roots are one just if there is a clash
  have iff : (partM l p.f0 p.f1 (i : Int) (m.length : Int) (pathM m i)).2.2 = true ↔ rootM l = rootM m := by
    constructor
    · intro h
      rw [hml] at h
      rw [hm] at h ⊢
      exact (part_turn hi h).symm
    · intro h
      have hc := check_own (l := m) (by omega) (i := i) (by omega)
      rw [hrd, hrootm, ← h, ← hroot] at hc
      rcases part_sound hf (by rw [hp0]; omega) (by omega) hok hc with h1 | ⟨_, _, h1⟩
      · exact h1
      · rw [← h1] at hp1; omega
  have hinner : innerOfM (l.take 1) = leafM (rd_T26 l 0).f0 (rd_T26 l 0).f1 := by
    match l, hi with
    | q :: t, _ =>
      unfold innerOfM
      rw [if_neg (by simp), List.take_succ_cons, List.take_zero, innerM_one]
      rfl
  have hset : l.set i ⟨(rd_T26 l (i : Int)).f0, ((rd_T26 l (i : Int)).f1) ++ (⟨#[33]⟩ : ByteArray)⟩ = m := by rw [hm, hp]
  cases hok2 : (partM l p.f0 p.f1 (i : Int) (m.length : Int) (pathM m i)).2.2 with
  | true =>
    have hcl := partM_clash hok2
    have heq := iff.1 hok2
    obtain ⟨K7, e7⟩ := Ev.get (impl_IsClash_ev (partM l p.f0 p.f1 (i : Int) (m.length : Int) (pathM m i)).1 (partM l p.f0 p.f1 (i : Int) (m.length : Int) (pathM m i)).2.1 32 (partM_size hf (by rw [hp0]; omega) (by omega) (pathM_few _ m i rfl)).1 (partM_size hf (by rw [hp0]; omega) (by omega) (pathM_few _ m i rfl)).2)
    refine ⟨K1 + K2 + K3 + K4 + K5 + K6 + K7 + K8 + K9 + 1, ?_⟩
    unfold laws_FnRoots.f laws_big.f
    rw [Option.bind_some, if_neg (by simpa using c), e1 _ (by omega), Option.bind_some]
    dsimp only
    rw [Option.bind_some, if_pos (by simp only [List.length_nil]; omega), List.nil_append, Option.bind_some, if_pos (by omega), if_pos (by omega), if_pos (by omega), Int.toNat_natCast, hset, Option.bind_some, e2 _ (by omega), Option.bind_some, e3 _ (by omega), Option.bind_some, e4 _ (by omega), Option.bind_some, if_pos rfl, if_pos (by rw [hroot, hs32]; rfl)]
    simp only [laws_FnRoots.j0]
    rw [if_neg (by rw [hrootm, hs32]; simp), if_pos (by omega), if_pos (by omega), e5 _ (by omega), Option.bind_some, hrd, e6 _ (by omega), Option.bind_some, if_pos hok2, e7 _ (by omega), Option.bind_some, hcl, hroot, hrootm, heq, if_pos (by simp), if_pos (by omega), e8 _ (by omega), Option.bind_some, if_pos (by omega), e9 _ (by omega), Option.bind_some, hinner]
    simp
  | false =>
    have hne : ¬ (rootM l).toList = (rootM m).toList := fun h => by
      have := iff.2 (toList_inj h)
      rw [hok2] at this
      cases this
    refine ⟨K1 + K2 + K3 + K4 + K5 + K6 + K8 + K9 + 1, ?_⟩
    unfold laws_FnRoots.f laws_big.f
    rw [Option.bind_some, if_neg (by simpa using c), e1 _ (by omega), Option.bind_some]
    dsimp only
    rw [Option.bind_some, if_pos (by simp only [List.length_nil]; omega), List.nil_append, Option.bind_some, if_pos (by omega), if_pos (by omega), if_pos (by omega), Int.toNat_natCast, hset, Option.bind_some, e2 _ (by omega), Option.bind_some, e3 _ (by omega), Option.bind_some, e4 _ (by omega), Option.bind_some, if_pos rfl, if_pos (by rw [hroot, hs32]; rfl)]
    simp only [laws_FnRoots.j0]
    rw [if_neg (by rw [hrootm, hs32]; simp), if_pos (by omega), if_pos (by omega), e5 _ (by omega), Option.bind_some, hrd, e6 _ (by omega), Option.bind_some, if_neg (by rw [hok2]; simp), hroot, hrootm, if_pos (by simpa using hne), if_pos (by omega), e8 _ (by omega), Option.bind_some, if_pos (by omega), e9 _ (by omega), Option.bind_some, hinner]
    simp
end Go.Proofs.Ytgaalomhipfgjaa.fnRoots
namespace Go.Proofs.Ytgaalomhipfgjaa
theorem fnRoots_holds : Rows.FnRootsSaid := fnRoots.proved fnRoots.pure_holds
#print axioms fnRoots_holds
end Go.Proofs.Ytgaalomhipfgjaa
