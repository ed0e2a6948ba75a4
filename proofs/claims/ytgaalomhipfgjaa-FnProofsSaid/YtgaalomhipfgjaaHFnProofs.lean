/- FnProofs: a drawn proof that is honest has as many items as are between, and at most two more. No condition. -/
import Derived.Test.YtgaalomhipfgjaaLawFnProofs
import Derived.Test.YtgaalomhipfgjaaProve
import Derived.Test.YtgaalomhipfgjaaPx0
import Derived.Test.YtgaalomhipfgjaaPx16
import Derived.Test.YtgaalomhipfgjaaPx18
import Derived.Test.YtgaalomhipfgjaaPx19
import Derived.Test.YtgaalomhipfgjaaPx2
namespace Go.Proofs.Ytgaalomhipfgjaa.fnProofs
open Go.RowKit Go.Proofs.YtgaalomhipfgjaaW.PrintWords Go.Proofs.YtgaalomhipfgjaaW.PrintLast Go.Proofs.YtgaalomhipfgjaaW.PrintMore Go.Proofs.Ytgaalomhipfgjaa.P
set_option linter.unusedVariables false
set_option linter.unusedSimpArgs false
theorem sameTexts_loop (t : List ByteArray) (ht : t.length ≤ 1000) : ∀ (d i : Nat), i + d = t.length → Ev (fun k => laws_sameTexts.l0 k t t (i : Int)) true := by
  intro d
  induction d with
  | zero =>
    intro i hi
    refine Ev.up (Ev.now _) (fun k _ => ?_)
    simp only [laws_sameTexts.l0]
    rw [if_neg (by omega)]
  | succ d ih =>
    intro i hi
    refine Ev.up (ih (i + 1) (by omega)) (fun k hk => ?_)
    simp only [laws_sameTexts.l0]
    rw [if_pos (by omega), if_pos (by omega), if_pos (by omega), if_pos (by first | trivial | rfl), w64 (by omega) (by omega)]
    exact hk
theorem sameTexts_ev (t : List ByteArray) (ht : t.length ≤ 1000) : Ev (fun k => laws_sameTexts.f k t t) true := by
  obtain ⟨K, e⟩ := Ev.get (sameTexts_loop t ht t.length 0 (by omega))
  refine ⟨K, fun k hk => ?_⟩
  show laws_sameTexts.f k t t = _
  unfold laws_sameTexts.f
  rw [if_pos rfl]
  exact e k hk
theorem wadd {a i : Nat} (h : a + i ≤ 1000) : wrap64 ((a : Int) + (i : Int)) = ((a + i : Nat) : Int) := by rw [w64 (by omega) (by omega)]; omega
theorem item_rd (l : List S26) (c a i : Nat) (h : i < c) : rd_T63 (itemsM l c a) (i : Int) = itemM l (a + i) := by
  unfold rd_T63
  rw [List.getD_eq_getElem?_getD, Int.toNat_natCast, itemsM_get l c a i h]
  rfl
theorem item_path (l : List S26) (i : Nat) : (itemM l i).f1 = pathM l i := rfl
theorem law_loop (l : List S26) (hl : l.length ≤ 60) (hf : Few l) (lo hi : ByteArray) (n : Nat) (hn : n ≤ 60) (a c : Nat) (hac : a + c ≤ l.length) (R : Bool)
    (hR : (if (l.length : Int) = (l.length : Int) then (if hi.toList = ([] : List UInt8) then (if ((itemsM l c a).length : Int) ≥ (n : Int) then (some (decide (((itemsM l c a).length : Int) ≤ (wrap64 ((n : Int) + 2))))) else (some false)) else (if (Op.bytesLess hi.toList lo.toList) = true then (some true) else (if ((itemsM l c a).length : Int) ≥ (n : Int) then (some (decide (((itemsM l c a).length : Int) ≤ (wrap64 ((n : Int) + 2))))) else (some false)))) else (some false)) = some R) :
    ∀ (d i : Nat), i + d = c → Ev (fun k => laws_FnProofs.l0 k l lo hi (n : Int) (i : Int) (l.length : Int) (a : Int) (itemsM l c a)) R := by
  have hlen := itemsM_len l c a
  intro d
  induction d with
  | zero =>
    intro i hid
    refine Ev.up (Ev.now _) (fun k _ => ?_)
    simp only [laws_FnProofs.l0]
    rw [if_neg (by omega)]
    first | exact hR | (rw [if_pos trivial]; rw [if_pos rfl] at hR; exact hR)
  | succ d ih =>
    intro i hid
    have hw := wadd (a := a) (i := i) (by omega)
    have hw1 : wrap64 ((i : Int) + 1) = ((i + 1 : Nat) : Int) := w64 (by omega) (by omega)
    have c1 : (i : Int) < ((itemsM l c a).length : Int) := by rw [hlen]; omega
    have c2 : (0 : Int) ≤ (i : Int) := by omega
    have c3 : (0 : Int) ≤ ((a + i : Nat) : Int) := by omega
    have c4 : ((a + i : Nat) : Int) < (l.length : Int) := by omega
    have hit := item_rd l c a i (by omega)
    obtain ⟨K1, e1⟩ := Ev.get (ih (i + 1) (by omega))
    obtain ⟨K2, e2⟩ := Ev.get (impl_PathOf_ev l ((a + i : Nat) : Int) (by omega) hf)
    have hp : pathOfM l ((a + i : Nat) : Int) = pathM l (a + i) := by
      unfold pathOfM
      rw [if_neg (by omega), if_pos (by omega), Int.toNat_natCast]
    rw [hp] at e2
    obtain ⟨K3, e3⟩ := Ev.get (sameTexts_ev (pathM l (a + i)) (by have := pathM_len _ l (a + i) rfl; omega))
    refine ⟨K1 + K2 + K3 + 1, fun k hk => ?_⟩
    obtain ⟨k, rfl⟩ : ∃ j, k = j + 1 := ⟨k - 1, by omega⟩
    show laws_FnProofs.l0 (k + 1) _ _ _ _ _ _ _ _ = _
    simp only [laws_FnProofs.l0]
    have k1 := e1 k (by omega)
    have k2 := e2 k (by omega)
    have k3 := e3 k (by omega)
    clear e1 e2 e3 hk
    have hne : ¬ (!((((itemM l (a + i)).f0.f0).toList) == (((rd_T26 l ((a + i : Nat) : Int)).f0).toList)) || (!((((itemM l (a + i)).f0.f1).toList) == (((rd_T26 l ((a + i : Nat) : Int)).f1).toList)))) = true := by simp [itemM]
    rw [if_pos c1, if_pos c2, hw, if_pos c3, if_pos c4, hit, if_neg hne, k2, Option.bind_some, item_path, k3, Option.bind_some, if_pos rfl, hw1]
    exact k1
theorem pure_holds : Pure := by
  intro s h0
  by_cases c : (s.length : Int) > 1048576
  · refine ⟨0, ?_⟩
    unfold laws_FnProofs.f laws_big.f
    rw [Option.bind_some, if_pos (by simpa using c)]
  obtain ⟨l, lo, hi, e, hpr, hl9⟩ := DrawBetween_some s (by omega)
  obtain ⟨K1, e1⟩ := Ev.get e
  have hf : Few l := fun q hq => by have := hpr q hq; exact ⟨by omega, by omega⟩
  obtain ⟨K2, e2⟩ := Ev.get (impl_ProveBetween_ev l (by omega) hf lo hi)
  obtain ⟨K3, e3⟩ := Ev.get (spec_ProveBetween_ev l (by omega) hf lo hi)
  obtain ⟨K4, e4⟩ := Ev.get (impl_Between_ev l (by omega) lo hi)
  obtain ⟨K5, e5⟩ := Ev.get (spec_PairsOk_ev l (by omega) (fun p hp => by have := (hf p hp).1; omega))
  have hfl : (l.filter (btwB lo hi)).length ≤ l.length := List.length_filter_le _ _
  have key : ∃ K6, ∀ k, K6 ≤ k → (if pokM l l.length 0 = true then (laws_FnProofs.l0 k l lo hi ((l.filter (btwB lo hi)).length : Int) 0 (proveM l lo hi).1 (proveM l lo hi).2.1 (proveM l lo hi).2.2) else (some ((proveM l lo hi).1 == 0))) = some true := by
    by_cases hok : pokM l l.length 0 = true
    · have hbt := toM_le l lo hi
      have hfr := fromM_le l lo
      have hlen := itemsM_len l (endM l lo hi - begM l lo) (begM l lo)
      have hR : (if (l.length : Int) = (l.length : Int) then (if hi.toList = ([] : List UInt8) then (if ((itemsM l (endM l lo hi - begM l lo) (begM l lo)).length : Int) ≥ ((l.filter (btwB lo hi)).length : Int) then (some (decide (((itemsM l (endM l lo hi - begM l lo) (begM l lo)).length : Int) ≤ (wrap64 (((l.filter (btwB lo hi)).length : Int) + 2))))) else (some false)) else (if (Op.bytesLess hi.toList lo.toList) = true then (some true) else (if ((itemsM l (endM l lo hi - begM l lo) (begM l lo)).length : Int) ≥ ((l.filter (btwB lo hi)).length : Int) then (some (decide (((itemsM l (endM l lo hi - begM l lo) (begM l lo)).length : Int) ≤ (wrap64 (((l.filter (btwB lo hi)).length : Int) + 2))))) else (some false)))) else (some false)) = some true := by
        rw [if_pos rfl]
        have fin : hi.toList = [] ∨ ¬ Op.bytesLess hi.toList lo.toList = true → (if ((itemsM l (endM l lo hi - begM l lo) (begM l lo)).length : Int) ≥ ((l.filter (btwB lo hi)).length : Int) then (some (decide (((itemsM l (endM l lo hi - begM l lo) (begM l lo)).length : Int) ≤ (wrap64 (((l.filter (btwB lo hi)).length : Int) + 2))))) else (some false)) = some true := by
          intro h
          have hb := between_len hok h
          rw [hlen, hb]
          unfold endM begM
          rw [if_pos (by omega), w64 (by omega) (by omega)]
          congr 1
          exact decide_eq_true (by omega)
        by_cases h1 : hi.toList = []
        · rw [if_pos h1]; exact fin (.inl h1)
        · rw [if_neg h1]
          by_cases h2 : Op.bytesLess hi.toList lo.toList = true
          · rw [if_pos h2]
          · rw [if_neg h2]; exact fin (.inr h2)
      unfold proveM
      simp only [if_pos hok]
      by_cases hbe : begM l lo < endM l lo hi
      · obtain ⟨K, e⟩ := Ev.get (law_loop l (by omega) hf lo hi (l.filter (btwB lo hi)).length (by omega) (begM l lo) (endM l lo hi - begM l lo) (by unfold endM at hbe ⊢; omega) true hR _ 0 (Nat.zero_add _))
        refine ⟨K, fun k hk => ?_⟩
        rw [if_pos hbe]
        exact e k hk
      · refine ⟨1, fun k hk => ?_⟩
        obtain ⟨k, rfl⟩ : ∃ j, k = j + 1 := ⟨k - 1, by omega⟩
        simp only [laws_FnProofs.l0]
        rw [if_neg (by rw [hlen]; omega)]
        first | exact hR | (rw [if_pos trivial]; rw [if_pos rfl] at hR; exact hR)
    · refine ⟨0, fun k _ => ?_⟩
      unfold proveM
      rw [if_neg hok, if_neg hok]
      rfl
  obtain ⟨K6, e6⟩ := key
  refine ⟨K1 + K2 + K3 + K4 + K5 + K6 + 1, ?_⟩
  unfold laws_FnProofs.f laws_big.f spec_DrawProveBetween.f
  rw [Option.bind_some, if_neg (by simpa using c), e1 _ (by omega), Option.bind_some, Option.bind_some, e2 _ (by omega), Option.bind_some, e3 _ (by omega), Option.bind_some, if_pos rfl, if_pos rfl]
  simp only [laws_FnProofs.j0]
  rw [if_neg (by simp), e4 _ (by omega), Option.bind_some, e5 _ (by omega), Option.bind_some]
  exact e6 _ (by omega)
end Go.Proofs.Ytgaalomhipfgjaa.fnProofs
namespace Go.Proofs.Ytgaalomhipfgjaa
theorem fnProofs_holds : Rows.FnProofsSaid := fnProofs.proved fnProofs.pure_holds
#print axioms fnProofs_holds
end Go.Proofs.Ytgaalomhipfgjaa
