/- FnPaths: each of drawn pairs has its path to their root; with another place, or more or less of it, it has not. No condition. -/
import Derived.Test.YthkaifddpjjmaaaLawFnPaths
import Derived.Test.YthkaifddpjjmaaaGood
import Derived.Test.YthkaifddpjjmaaaTurn
import Derived.Test.YthkaifddpjjmaaaPx0
import Derived.Test.YthkaifddpjjmaaaPx1
import Derived.Test.YthkaifddpjjmaaaPx12
namespace Go.Proofs.Ythkaifddpjjmaaa.fnPaths
open Go.RowKit Go.Proofs.YthkaifddpjjmaaaW.PrintWords Go.Proofs.YthkaifddpjjmaaaW.PrintLast Go.Proofs.YthkaifddpjjmaaaW.PrintMore Go.Proofs.Ythkaifddpjjmaaa.P
set_option linter.unusedVariables false
set_option linter.unusedSimpArgs false
theorem checkM_len {leaf : List Int} {i n : Int} {path : List ByteArray} {root : ByteArray} (h : checkM leaf i n path root = true) : path.length = depthM n.toNat i.toNat := by
  unfold checkM at h
  split at h
  · split at h
    · next h2 => exact (wayR_depth leaf n.toNat i.toNat path).1.1 h2
    · cases h
  · cases h
theorem pure_holds : Pure := by
  intro s h0
  by_cases c : (s.length : Int) > 1048576
  · refine ⟨0, ?_⟩
    unfold laws_FnPaths.f laws_big.f
    rw [Option.bind_some, if_pos (by simpa using c)]
  obtain ⟨l, i, e, hpr, hok, hl9, hi⟩ := DrawPlace_good s (by omega)
  obtain ⟨K1, e1⟩ := Ev.get e
  have hri := hpr (rd_T26 l (i : Int)) (by rw [rdP_get l hi]; exact List.getElem_mem _)
  have hf : FewP l := fun q hq => by have := hpr q hq; exact ⟨by omega, by omega⟩
  obtain ⟨K2, e2⟩ := Ev.get (impl_PathOf_ev l (i : Int) (by omega) hf.few)
  have hpath : pathOfM l (i : Int) = pathM l i := by
    unfold pathOfM
    rw [if_neg (by omega), if_pos (by omega), Int.toNat_natCast]
  rw [hpath] at e2
  obtain ⟨K3, e3⟩ := Ev.get (impl_RootOf_ev l hf.few)
  have hpl := pathM_len _ l i rfl
  have hpd := pathM_depth _ l i rfl
  have hps := pathM_few _ l i rfl
  obtain ⟨p, hp⟩ : ∃ p, p = pathM l i := ⟨_, rfl⟩
  rw [← hp] at e2 hpl hpd hps
  have hps2 : FewS (p ++ [(⟨#[120]⟩ : ByteArray)]) := fun x hx => by
    rcases List.mem_append.1 hx with h1 | h1
    · exact hps x h1
    · rw [List.mem_singleton.1 h1]; show (1 : Nat) ≤ _; omega
  have hps3 : FewS (p.drop 1) := fun x hx => hps x (List.mem_of_mem_drop hx)
  have ha : (rd_T26 l (i : Int)).f0.size ≤ 10000000 := by omega
  have hb : (rd_T26 l (i : Int)).f1.size ≤ 10000000 := by omega
  obtain ⟨K4, e4⟩ := Ev.get (impl_CheckPath_ev _ _ ha hb (i : Int) (l.length : Int) (by omega) p hps (by omega) (rootOfM l))
  obtain ⟨K5, e5⟩ := Ev.get (impl_CheckPath_ev _ _ ha hb (i : Int) (l.length : Int) (by omega) (p ++ [(⟨#[120]⟩ : ByteArray)]) hps2 (by rw [List.length_append, List.length_singleton]; omega) (rootOfM l))
  obtain ⟨K6, e6⟩ := Ev.get (impl_CheckPath_ev _ _ ha hb (l.length : Int) (l.length : Int) (by omega) p hps (by omega) (rootOfM l))
  obtain ⟨K7, e7⟩ := Ev.get (impl_CheckPath_ev _ _ ha hb (i : Int) (l.length : Int) (by omega) (p.drop 1) hps3 (by rw [List.length_drop]; omega) (rootOfM l))
  have hc4 : checkM (leafB (rd_T26 l (i : Int)).f0 (rd_T26 l (i : Int)).f1) (i : Int) (l.length : Int) p (rootOfM l) = true := by
    rw [hp]
    exact check_own (by omega) hi
  have hc5 : checkM (leafB (rd_T26 l (i : Int)).f0 (rd_T26 l (i : Int)).f1) (i : Int) (l.length : Int) (p ++ [(⟨#[120]⟩ : ByteArray)]) (rootOfM l) = false := by
    refine Bool.eq_false_iff.2 fun h => ?_
    have := checkM_len h
    rw [List.length_append, List.length_singleton, Int.toNat_natCast, Int.toNat_natCast] at this
    omega
  have hc6 : checkM (leafB (rd_T26 l (i : Int)).f0 (rd_T26 l (i : Int)).f1) (l.length : Int) (l.length : Int) p (rootOfM l) = false := by
    unfold checkM
    rw [if_neg (by omega)]
  rw [hc4] at e4
  rw [hc5] at e5
  rw [hc6] at e6
  refine ⟨K1 + K2 + K3 + K4 + K5 + K6 + K7, ?_⟩
  unfold laws_FnPaths.f laws_big.f
  rw [Option.bind_some, if_neg (by simpa using c), e1 _ (by omega), Option.bind_some]
  dsimp only
  rw [e2 _ (by omega), Option.bind_some, e3 _ (by omega), Option.bind_some]
  unfold laws_FnPaths.r
  rw [if_pos (by omega), if_pos (by omega), e4 _ (by omega), Option.bind_some, if_pos rfl, if_pos (by omega), e5 _ (by omega), Option.bind_some, if_neg (by simp), e6 _ (by omega), Option.bind_some, if_neg (by simp)]
  by_cases c0 : (p.length : Int) = 0
  · rw [if_pos c0]
  · have hc7 : checkM (leafB (rd_T26 l (i : Int)).f0 (rd_T26 l (i : Int)).f1) (i : Int) (l.length : Int) (p.drop 1) (rootOfM l) = false := by
      refine Bool.eq_false_iff.2 fun h => ?_
      have := checkM_len h
      rw [List.length_drop, Int.toNat_natCast, Int.toNat_natCast] at this
      omega
    rw [if_neg c0, if_pos (by omega), e7 _ (by omega), Option.bind_some, hc7, if_neg (by simp)]
end Go.Proofs.Ythkaifddpjjmaaa.fnPaths
namespace Go.Proofs.Ythkaifddpjjmaaa
theorem fnPaths_holds : Rows.FnPathsSaid := fnPaths.proved fnPaths.pure_holds
#print axioms fnPaths_holds
end Go.Proofs.Ythkaifddpjjmaaa
