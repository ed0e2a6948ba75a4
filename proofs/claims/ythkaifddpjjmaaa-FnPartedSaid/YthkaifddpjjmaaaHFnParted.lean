/- FnParted: a drawn pair that is taken to be at a place of a root that it is not at has a clash. No condition. -/
import Derived.Test.YthkaifddpjjmaaaLawFnParted
import Derived.Test.YthkaifddpjjmaaaGood
import Derived.Test.YthkaifddpjjmaaaTurn
import Derived.Test.YthkaifddpjjmaaaPx0
import Derived.Test.YthkaifddpjjmaaaPx11
import Derived.Test.YthkaifddpjjmaaaPx16
import Derived.Test.YthkaifddpjjmaaaPx2
import Derived.Test.YthkaifddpjjmaaaPx5
import Derived.Test.YthkaifddpjjmaaaPx6
import Derived.Test.YthkaifddpjjmaaaPx7
namespace Go.Proofs.Ythkaifddpjjmaaa.fnParted
open Go.RowKit Go.Proofs.YthkaifddpjjmaaaW.PrintWords Go.Proofs.YthkaifddpjjmaaaW.PrintLast Go.Proofs.YthkaifddpjjmaaaW.PrintMore Go.Proofs.Ythkaifddpjjmaaa.P
set_option linter.unusedVariables false
set_option linter.unusedSimpArgs false
theorem DrawPartAt_some (s : List Int) (hs : s.length ≤ 1048576) : ∃ (l : List S26) (a b : ByteArray) (i : Nat) (n : Int) (t : List ByteArray), Ev (fun k => spec_DrawPartAt.f k s) (l, a, b, (i : Int), n, t) ∧
    PR l ∧ l.length ≤ 9 ∧ a.size ≤ 31 ∧ b.size ≤ 31 ∧ i ≤ 9 ∧ (-1 ≤ n ∧ n ≤ 61) ∧ FewS t ∧ t.length ≤ 60 := by
  obtain ⟨y, e, h⟩ := l1New_some s hs
  obtain ⟨r, q, y1, e1, h1, hr, hl⟩ := l3Draw_some h y
  obtain ⟨v, q2, y2, e2, h2, hv⟩ := l3Val_some h1 y1
  obtain ⟨L, hL⟩ : ∃ L : List S26, L = r ++ [(⟨(⟨#[122, 122]⟩ : ByteArray), v⟩ : S26)] := ⟨_, rfl⟩
  have hlen : L.length = r.length + 1 := by rw [hL]; simp
  have hLr : PR L := by rw [hL]; exact hr.app (PR.one (by decide) (by omega))
  obtain ⟨m, q3, y3, e3, h3, hm0, hm1⟩ := l1Below_some h2 y2 (L.length : Int) (by omega)
  obtain ⟨i, rfl⟩ := Int.eq_ofNat_of_zero_le hm0
  have hf : Few L := fun p hp => by have := hLr p hp; exact ⟨by omega, by omega⟩
  have hri : (rd_T26 L (i : Int)).f0.size ≤ 30 ∧ (rd_T26 L (i : Int)).f1.size ≤ 30 := hLr _ (by rw [rdP_get L (by omega)]; exact List.getElem_mem _)
  obtain ⟨K4, e4⟩ := Ev.get (spec_l4Path_ev L.length L i rfl (by omega) (by omega) hf)
  have hps := pathM_few _ L i rfl
  have hpl := pathM_len _ L i rfl
  obtain ⟨w, q5, y5, e5, h5, hw0, hw1⟩ := l1Below_some h3 y3 6 (by omega)
  obtain ⟨K, e⟩ := Ev.get e
  obtain ⟨K1, e1⟩ := Ev.get e1
  have front : ∀ k, K + K1 + K4 ≤ k → spec_DrawPartAt.f k s = (if w = 0 then (if ((rd_T26 L (i : Int)).f1).size + 1 ≤ 9223372036854775807 then (some (L, (rd_T26 L (i : Int)).f0, ((rd_T26 L (i : Int)).f1) ++ (⟨#[120]⟩ : ByteArray), (i : Int), (L.length : Int), pathM L i)) else (none)) else (if w = 1 then ((spec_l1Int.f s q5 y5 (([0, wrap64 ((L.length : Int) + 1), 61, wrap64 ((L.length : Int) - 1)] : List Int))).bind fun bt473 => (some (L, (rd_T26 L (i : Int)).f0, (rd_T26 L (i : Int)).f1, (i : Int), bt473.1, pathM L i))) else (if w = 2 then ((spec_l3Any.f k s q5 y5).bind fun bt476 => (some (bt476.1, (rd_T26 L (i : Int)).f0, (rd_T26 L (i : Int)).f1, (i : Int), (L.length : Int), pathM L i))) else (if w = 3 then (if ((pathM L i).length : Int) > 0 then ((spec_Digest.f k (([7] : List Int))).bind fun t484 => (if 0 < ((pathM L i).length : Int) then (some (L, (rd_T26 L (i : Int)).f0, (rd_T26 L (i : Int)).f1, (i : Int), (L.length : Int), ((pathM L i).set (0 : Int).toNat t484))) else (none))) else (some (L, (rd_T26 L (i : Int)).f0, (rd_T26 L (i : Int)).f1, (i : Int), (L.length : Int), pathM L i))) else (if w = 4 then (if (pathM L i).length < 8796093022208 then (some (L, (rd_T26 L (i : Int)).f0, (rd_T26 L (i : Int)).f1, (i : Int), (L.length : Int), (pathM L i ++ [(⟨#[120]⟩ : ByteArray)]))) else (none)) else (some (L, (rd_T26 L (i : Int)).f0, (rd_T26 L (i : Int)).f1, (i : Int), (L.length : Int), pathM L i))))))) := by
    intro k hk
    unfold spec_DrawPartAt.f
    rw [e _ (by omega), Option.bind_some, e1 _ (by omega), Option.bind_some, e2, Option.bind_some, if_pos (by show r.length < _; omega), Option.bind_some, ← hL, e3, Option.bind_some]
    dsimp only
    rw [if_pos (by omega), if_pos (by omega), e4 _ (by omega), Option.bind_some, e5, Option.bind_some]
  by_cases c0 : w = 0
  · refine ⟨L, (rd_T26 L (i : Int)).f0, ((rd_T26 L (i : Int)).f1) ++ (⟨#[120]⟩ : ByteArray), i, (L.length : Int), pathM L i, ⟨K + K1 + K4, fun k hk => ?_⟩, hLr, by omega, by omega, ?_, by omega, by omega, hps, by omega⟩
    · show spec_DrawPartAt.f k s = _
      rw [front k hk, if_pos c0, if_pos (by omega)]
    · show (_ ++ _ : ByteArray).size ≤ _
      rw [ByteArray.size_append]
      show _ + 1 ≤ _
      omega
  by_cases c1 : w = 1
  · obtain ⟨n, q6, y6, e6, h6, hn⟩ := l1Int_some h5 y5 [0, wrap64 ((L.length : Int) + 1), 61, wrap64 ((L.length : Int) - 1)] (by simp)
    rw [w64 (x := (L.length : Int) + 1) (by omega) (by omega), w64 (x := (L.length : Int) - 1) (by omega) (by omega)] at hn
    refine ⟨L, (rd_T26 L (i : Int)).f0, (rd_T26 L (i : Int)).f1, i, n, pathM L i, ⟨K + K1 + K4, fun k hk => ?_⟩, hLr, by omega, by omega, by omega, by omega, ?_, hps, by omega⟩
    · show spec_DrawPartAt.f k s = _
      rw [front k hk, if_neg c0, if_pos c1, e6, Option.bind_some]
    · simp only [List.mem_cons, List.not_mem_nil, or_false] at hn
      omega
  by_cases c2 : w = 2
  · obtain ⟨r2, q6, y6, e6, h6, hr2, hl2⟩ := l3Any_some h5 y5
    obtain ⟨K6, e6⟩ := Ev.get e6
    refine ⟨r2, (rd_T26 L (i : Int)).f0, (rd_T26 L (i : Int)).f1, i, (L.length : Int), pathM L i, ⟨K + K1 + K4 + K6, fun k hk => ?_⟩, hr2, hl2, by omega, by omega, by omega, by omega, hps, by omega⟩
    show spec_DrawPartAt.f k s = _
    rw [front k (by omega), if_neg c0, if_neg c1, if_pos c2, e6 _ (by omega), Option.bind_some]
  by_cases c3 : w = 3
  · by_cases c4 : ((pathM L i).length : Int) > 0
    · obtain ⟨K6, e6⟩ := Ev.get (spec_Digest_ev [7] (By.one (by omega) (by omega)) (by simp))
      refine ⟨L, (rd_T26 L (i : Int)).f0, (rd_T26 L (i : Int)).f1, i, (L.length : Int), (pathM L i).set (0 : Int).toNat (digM [7]), ⟨K + K1 + K4 + K6, fun k hk => ?_⟩, hLr, by omega, by omega, by omega, by omega, by omega, fun x hx => ?_, by rw [List.length_set]; omega⟩
      · show spec_DrawPartAt.f k s = _
        rw [front k (by omega), if_neg c0, if_neg c1, if_neg c2, if_pos c3, if_pos c4, e6 _ (by omega), Option.bind_some, if_pos (by omega)]
      · rcases List.mem_or_eq_of_mem_set hx with h7 | h7
        · exact hps x h7
        · rw [h7, digM_size]; omega
    · refine ⟨L, (rd_T26 L (i : Int)).f0, (rd_T26 L (i : Int)).f1, i, (L.length : Int), pathM L i, ⟨K + K1 + K4, fun k hk => ?_⟩, hLr, by omega, by omega, by omega, by omega, by omega, hps, by omega⟩
      show spec_DrawPartAt.f k s = _
      rw [front k (by omega), if_neg c0, if_neg c1, if_neg c2, if_pos c3, if_neg c4]
  by_cases c4 : w = 4
  · refine ⟨L, (rd_T26 L (i : Int)).f0, (rd_T26 L (i : Int)).f1, i, (L.length : Int), pathM L i ++ [(⟨#[120]⟩ : ByteArray)], ⟨K + K1 + K4, fun k hk => ?_⟩, hLr, by omega, by omega, by omega, by omega, by omega, fun x hx => ?_, by rw [List.length_append, List.length_singleton]; omega⟩
    · show spec_DrawPartAt.f k s = _
      rw [front k (by omega), if_neg c0, if_neg c1, if_neg c2, if_neg c3, if_pos c4, if_pos (by omega)]
    · rcases List.mem_append.1 hx with h7 | h7
      · exact hps x h7
      · rw [List.mem_singleton.1 h7]; show (1 : Nat) ≤ _; omega
  · refine ⟨L, (rd_T26 L (i : Int)).f0, (rd_T26 L (i : Int)).f1, i, (L.length : Int), pathM L i, ⟨K + K1 + K4, fun k hk => ?_⟩, hLr, by omega, by omega, by omega, by omega, by omega, hps, by omega⟩
    show spec_DrawPartAt.f k s = _
    rw [front k (by omega), if_neg c0, if_neg c1, if_neg c2, if_neg c3, if_neg c4]
theorem pure_holds : Pure := by
  intro s h0
  by_cases c : (s.length : Int) > 1048576
  · refine ⟨0, ?_⟩
    unfold laws_FnParted.f laws_big.f
    rw [Option.bind_some, if_pos (by simpa using c)]
  obtain ⟨l, a, b, i, n, t, e, hpr, hl9, ha, hb, hi, hn, ht, htl⟩ := DrawPartAt_some s (by omega)
  obtain ⟨K1, e1⟩ := Ev.get e
  have hf : FewP l := fun q hq => by have := hpr q hq; exact ⟨by omega, by omega⟩
  obtain ⟨K2, e2⟩ := Ev.get (impl_PartAt_ev l (by omega) hf a b (by omega) (by omega) (i : Int) n (by omega) t ht (by omega))
  obtain ⟨K3, e3⟩ := Ev.get (spec_PartAt_ev l (by omega) hf a b (by omega) (by omega) (i : Int) n (by omega) t ht (by omega))
  obtain ⟨K4, e4⟩ := Ev.get (spec_PairsOk_ev l (by omega) (fun p hp => by have := (hf p hp).1; omega))
  obtain ⟨K5, e5⟩ := Ev.get (impl_RootOf_ev l hf.few)
  obtain ⟨K6, e6⟩ := Ev.get (impl_CheckPath_ev a b (by omega) (by omega) (i : Int) n (by omega) t ht (by omega) (rootOfM l))
  -- what comes behind the first tests
  have tail : ∀ k, K4 + K5 + K6 ≤ k → laws_FnParted.j0 (k + 1) l (i : Int) n t (partM l a b (i : Int) n t).2.2 false a b = some true := by
    intro k hk
    simp only [laws_FnParted.j0]
    rw [if_neg (by simp), e4 _ (by omega), Option.bind_some]
    by_cases hok : pokM l l.length 0 = true
    · rw [if_pos hok, e5 _ (by omega), Option.bind_some, e6 _ (by omega), Option.bind_some]
      by_cases hc : checkM (leafB a b) (i : Int) n t (rootOfM l) = true
      · rw [if_pos hc]
        rcases part_sound hf (by omega) (by omega) hok hc with h1 | ⟨⟨h1, h2, h3⟩, h4, h5⟩
        · rw [if_pos h1]
        · by_cases h6 : (partM l a b (i : Int) n t).2.2 = true
          · rw [if_pos h6]
          · rw [if_neg h6, if_pos h1.symm, if_pos h2, if_pos (by omega), h4, h5]
            simp
      · rw [if_neg hc]
    · rw [if_neg hok]
  refine ⟨K1 + K2 + K3 + K4 + K5 + K6 + 1 + (if (partM l a b (i : Int) n t).2.2 = true then (Classical.choose (impl_IsClash_ev (partM l a b (i : Int) n t).1 (partM l a b (i : Int) n t).2.1 32 (partM_size hf (by omega) (by omega) ht).1 (partM_size hf (by omega) (by omega) ht).2)) else 0), ?_⟩
  have hcl := Classical.choose_spec (impl_IsClash_ev (partM l a b (i : Int) n t).1 (partM l a b (i : Int) n t).2.1 32 (partM_size hf (by omega) (by omega) ht).1 (partM_size hf (by omega) (by omega) ht).2)
  generalize Classical.choose (impl_IsClash_ev (partM l a b (i : Int) n t).1 (partM l a b (i : Int) n t).2.1 32 (partM_size hf (by omega) (by omega) ht).1 (partM_size hf (by omega) (by omega) ht).2) = K7 at hcl ⊢
  unfold laws_FnParted.f laws_big.f
  rw [Option.bind_some, if_neg (by simpa using c), e1 _ (by omega), Option.bind_some]
  dsimp only
  rw [e2 _ (by omega), Option.bind_some, e3 _ (by omega), Option.bind_some, if_neg (by simp), if_pos rfl, if_pos rfl]
  by_cases h6 : (partM l a b (i : Int) n t).2.2 = true
  · rw [if_pos h6, if_pos h6]
    have h7 := hcl (K1 + K2 + K3 + K4 + K5 + K6 + 1 + K7) (by omega)
    rw [partM_clash h6] at h7
    have h8 := tail (K1 + K2 + K3 + K4 + K5 + K6 + K7) (by omega)
    rw [show K1 + K2 + K3 + K4 + K5 + K6 + K7 + 1 = K1 + K2 + K3 + K4 + K5 + K6 + 1 + K7 by omega] at h8
    rw [show impl_IsClash.f (K1 + K2 + K3 + K4 + K5 + K6 + 1 + K7) _ _ _ = _ from h7, Option.bind_some]
    exact h8
  · rw [if_neg h6, if_neg h6]
    exact tail (K1 + K2 + K3 + K4 + K5 + K6) (by omega)
end Go.Proofs.Ythkaifddpjjmaaa.fnParted
namespace Go.Proofs.Ythkaifddpjjmaaa
theorem fnParted_holds : Rows.FnPartedSaid := fnParted.proved fnParted.pure_holds
#print axioms fnParted_holds
end Go.Proofs.Ythkaifddpjjmaaa
