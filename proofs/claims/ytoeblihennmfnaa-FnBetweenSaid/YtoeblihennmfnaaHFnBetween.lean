/- FnBetween: the program's Between answers what the reference's answers, and parts a row where it should. No condition. -/
import Derived.Test.YtoeblihennmfnaaLawFnBetween
import Derived.Test.YtoeblihennmfnaaSorted
import Derived.Test.YtoeblihennmfnaaDrawPairs
import Derived.Test.YtoeblihennmfnaaPx0
import Derived.Test.YtoeblihennmfnaaPx32
import Derived.Test.YtoeblihennmfnaaPx6
namespace Go.Proofs.Ytoeblihennmfnaa.fnBetween
open Go.RowKit Go.Proofs.YtoeblihennmfnaaW.PrintWords Go.Proofs.YtoeblihennmfnaaW.PrintLast Go.Proofs.YtoeblihennmfnaaW.PrintMore Go.Proofs.Ytoeblihennmfnaa.P
set_option linter.unusedVariables false
set_option linter.unusedSimpArgs false
theorem pure_holds : Pure := by
  intro l h0
  by_cases c : (l.length : Int) > 1048576
  · refine ⟨0, ?_⟩
    unfold laws_FnBetween.f laws_big.f
    rw [Option.bind_some, if_pos (by simpa using c)]
  · obtain ⟨m, f, t, e1, hp, hl⟩ := DrawBetween_some l (by omega)
    obtain ⟨K1, e1⟩ := Ev.get e1
    have hsz : ∀ p ∈ m, p.f0.size ≤ 140737488355328 := fun p h => by have := (hp p h).1; omega
    have hle : ∀ p : S57 → Bool, (m.filter p).length ≤ 9 := fun p => Nat.le_trans (List.length_filter_le _ _) hl
    have hall : m.filter (btwB ⟨#[]⟩ ⟨#[]⟩) = m := List.filter_eq_self.2 (fun x _ => btw_all x)
    obtain ⟨K2, e2⟩ := Ev.get (impl_Between_ev m (by omega) f t)
    obtain ⟨K3, e3⟩ := Ev.get (spec_Between_ev m (by omega) f t)
    obtain ⟨K4, e4⟩ := Ev.get (samePairs_ev (m.filter (btwB f t)) (by have := hle (btwB f t); omega))
    obtain ⟨K5, e5⟩ := Ev.get (impl_Between_ev m (by omega) f ⟨#[]⟩)
    obtain ⟨K6, e6⟩ := Ev.get (impl_Between_ev m (by omega) t ⟨#[]⟩)
    obtain ⟨K7, e7⟩ := Ev.get (impl_Between_ev m (by omega) ⟨#[]⟩ ⟨#[]⟩)
    rw [hall] at e7
    obtain ⟨K8, e8⟩ := Ev.get (samePairs_ev m (by omega))
    obtain ⟨K9, e9⟩ := Ev.get (spec_PairsOk_ev m (by omega) hsz)
    obtain ⟨K10, e10⟩ := Ev.get (samePairs_ev (m.filter (btwB f ⟨#[]⟩)) (by have := hle (btwB f ⟨#[]⟩); omega))
    generalize hK : K1 + K2 + K3 + K4 + K5 + K6 + K7 + K8 + K9 + K10 = K
    have h1 := hle (btwB f t)
    have h2 := hle (btwB f ⟨#[]⟩)
    -- the two parts make the whole
    have hj1 : ∀ z : List S57, z.length ≤ 9 → (m.filter (btwB f ⟨#[]⟩)).length = (m.filter (btwB f t)).length + z.length → (pokM m m.length 0 = true → m.filter (btwB f ⟨#[]⟩) = m.filter (btwB f t) ++ z) →
        laws_FnBetween.j1 (K + 2) m (m.filter (btwB f t)) (m.filter (btwB f ⟨#[]⟩)) z = some true := by
      intro z hz hlen hsort
      simp only [laws_FnBetween.j1]
      rw [w64 (by omega) (by omega), if_pos (by omega), e7 _ (by omega), Option.bind_some, e8 _ (by omega), Option.bind_some]
      simp only [laws_FnBetween.j2]
      rw [if_neg (by simp), e9 _ (by omega), Option.bind_some]
      by_cases cs : pokM m m.length 0 = true
      · rw [if_pos cs, Option.bind_some, if_pos (by simp only [List.length_nil]; omega), Option.bind_some, if_pos (by simp only [List.nil_append]; omega), List.nil_append, ← hsort cs, e10 _ (by omega), Option.bind_some]
      · rw [if_neg cs]
    have hj0 : laws_FnBetween.j0 (K + 3) m f t (m.filter (btwB f t)) true = some true := by
      simp only [laws_FnBetween.j0]
      rw [if_pos trivial, e3 _ (by omega), Option.bind_some, e4 _ (by omega), Option.bind_some]
    refine ⟨K + 3, ?_⟩
    unfold laws_FnBetween.f laws_big.f
    rw [Option.bind_some, if_neg (by simpa using c), e1 _ (by omega), Option.bind_some, e2 _ (by omega), Option.bind_some, e3 _ (by omega), Option.bind_some, e4 _ (by omega), Option.bind_some, if_pos rfl]
    by_cases ct : t.toList = ([] : List UInt8)
    · rw [if_pos ct]
      simp only [laws_FnBetween.j0]
      rw [if_neg (by simp), e5 _ (by omega), Option.bind_some, if_pos ct]
      have he : m.filter (btwB f ⟨#[]⟩) = m.filter (btwB f t) := List.filter_congr (fun x _ => (btw_nil ct x).symm)
      exact hj1 [] (by simp) (by rw [he]; simp) (fun _ => by rw [he]; simp)
    · rw [if_neg ct]
      by_cases cl : Op.bytesLess t.toList f.toList = true
      · rw [cl]; exact hj0
      · rw [show Op.bytesLess t.toList f.toList = false by simpa using cl]
        simp only [laws_FnBetween.j0]
        rw [if_neg (by simp), e5 _ (by omega), Option.bind_some, if_neg ct, e6 _ (by omega), Option.bind_some]
        exact hj1 _ (hle _) (filter_part _ _ _ m (fun x _ => btw_part cl ct x)) (fun cs => filter_sorted _ _ _ _ m (pokM_pairwise m cs) (fun x _ => btw_part cl ct x) (fun x _ y _ hxy hx => btw_up hxy hx))
end Go.Proofs.Ytoeblihennmfnaa.fnBetween
namespace Go.Proofs.Ytoeblihennmfnaa
theorem fnBetween_holds : Rows.FnBetweenSaid := fnBetween.proved fnBetween.pure_holds
#print axioms fnBetween_holds
end Go.Proofs.Ytoeblihennmfnaa
