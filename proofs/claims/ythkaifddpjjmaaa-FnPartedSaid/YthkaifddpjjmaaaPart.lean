/- PartAt: the program's and the reference's answer what the model answers. No condition but bounds on lengths. -/
import Derived.Test.YthkaifddpjjmaaaOks
import Derived.Test.YthkaifddpjjmaaaPath
import Derived.Test.YthkaifddpjjmaaaClash
import Derived.Test.YthkaifddpjjmaaaPx0
import Derived.Test.YthkaifddpjjmaaaPx11
import Derived.Test.YthkaifddpjjmaaaPx12
import Derived.Test.YthkaifddpjjmaaaPx14
import Derived.Test.YthkaifddpjjmaaaPx15
namespace Go.Proofs.Ythkaifddpjjmaaa.P
open Go.RowKit Go.Proofs.YthkaifddpjjmaaaW.PrintWords Go.Proofs.YthkaifddpjjmaaaW.PrintLast Go.Proofs.YthkaifddpjjmaaaW.PrintMore
set_option linter.unusedVariables false
set_option linter.unusedSimpArgs false
/-- How long the way from the i-th of n is. -/
def depthM (n i : Nat) : Nat := if h : 2 ≤ n then (if i < halfM n then depthM (halfM n) i else depthM (n - halfM n) (i - halfM n)) + 1 else 0
termination_by n
decreasing_by all_goals (have := halfM_lt h; omega)
theorem climbR_depth (leaf : List Int) : ∀ (n i : Nat) (path : List ByteArray), ((climbR leaf n i path).2 = true ↔ path.length = depthM n i) ∧ ((climbR leaf n i path).2 = true → (climbR leaf n i path).1.length = depthM n i + 1) := by
  intro n
  induction n using Nat.strongRecOn with
  | _ n ih =>
    intro i path
    rw [climbR, depthM]
    by_cases h : 2 ≤ n
    · have hh := halfM_lt h
      rw [dif_pos h, dif_pos h]
      by_cases h0 : path.length = 0
      · rw [if_pos h0]
        simp [h0]
      · rw [if_neg h0]
        have ht : (path.take (path.length - 1)).length = path.length - 1 := by rw [List.length_take]; omega
        by_cases hi : i < halfM n
        · rw [if_pos hi, if_pos hi]
          obtain ⟨i1, i2⟩ := ih (halfM n) (by omega) i (path.take (path.length - 1))
          rw [ht] at i1
          generalize climbR leaf (halfM n) i (path.take (path.length - 1)) = r at *
          by_cases hr : r.2 = true
          · rw [if_pos hr]
            have := i1.1 hr
            have := i2 hr
            simp
            omega
          · rw [if_neg hr]
            have : ¬ path.length - 1 = depthM (halfM n) i := fun e => hr (i1.2 e)
            simp
            omega
        · rw [if_neg hi, if_neg hi]
          obtain ⟨i1, i2⟩ := ih (n - halfM n) (by omega) (i - halfM n) (path.take (path.length - 1))
          rw [ht] at i1
          generalize climbR leaf (n - halfM n) (i - halfM n) (path.take (path.length - 1)) = r at *
          by_cases hr : r.2 = true
          · rw [if_pos hr]
            have := i1.1 hr
            have := i2 hr
            simp
            omega
          · rw [if_neg hr]
            have : ¬ path.length - 1 = depthM (n - halfM n) (i - halfM n) := fun e => hr (i1.2 e)
            simp
            omega
    · rw [dif_neg h, dif_neg h]
      simp
theorem wayR_depth (leaf : List Int) (n i : Nat) (path : List ByteArray) : ((wayR leaf n i path).2 = true ↔ path.length = depthM n i) ∧ ((wayR leaf n i path).2 = true → (wayR leaf n i path).1.length = depthM n i + 2) := by
  obtain ⟨i1, i2⟩ := climbR_depth leaf n i path
  unfold wayR
  generalize climbR leaf n i path = r at *
  by_cases hr : r.2 = true
  · rw [if_pos hr]
    have := i1.1 hr
    have := i2 hr
    simp
    omega
  · rw [if_neg hr]
    have : ¬ path.length = depthM n i := fun e => hr (i1.2 e)
    simp
    omega
theorem pathM_depth : ∀ (n : Nat) (l : List S26) (i : Nat), l.length = n → (pathM l i).length = depthM n i := by
  intro n
  induction n using Nat.strongRecOn with
  | _ n ih =>
    intro l i hl
    rw [pathM, depthM]
    by_cases h : 2 ≤ n
    · have hh := halfM_lt h
      rw [dif_pos h, dif_pos (by omega), hl]
      by_cases hi : i < halfM n
      · rw [if_pos hi, if_pos hi, List.length_append, ih (halfM n) (by omega) _ i (by rw [List.length_take]; omega)]
        rfl
      · rw [if_neg hi, if_neg hi, List.length_append, ih (n - halfM n) (by omega) _ (i - halfM n) (by rw [List.length_drop]; omega)]
        rfl
    · rw [dif_neg h, dif_neg (by omega)]
      rfl
theorem pathM_few : ∀ (n : Nat) (l : List S26) (i : Nat), l.length = n → FewS (pathM l i) := by
  intro n
  induction n using Nat.strongRecOn with
  | _ n ih =>
    intro l i hl
    rw [pathM]
    by_cases h : 2 ≤ l.length
    · have hh := halfM_lt h
      rw [dif_pos h]
      by_cases hi : i < halfM l.length
      · rw [if_pos hi]
        intro s hs
        rcases List.mem_append.1 hs with h1 | h1
        · exact ih (halfM n) (by rw [← hl]; omega) _ i (by rw [List.length_take, ← hl]; omega) s h1
        · rw [List.mem_singleton.1 h1, innerM_size]; omega
      · rw [if_neg hi]
        intro s hs
        rcases List.mem_append.1 hs with h1 | h1
        · exact ih (n - halfM n) (by rw [← hl]; omega) _ _ (by rw [List.length_drop, ← hl]) s h1
        · rw [List.mem_singleton.1 h1, innerM_size]; omega
    · rw [dif_neg h]
      intro s hs
      exact absurd hs List.not_mem_nil
/-- The last of the way beside what the root of l is of. -/
def tailM (l : List S26) (A : List (List Int)) : ByteArray × ByteArray × Bool :=
  (strOfNums (lastL A), strOfNums (topB l.length (innerM l)), clashM (strOfNums (lastL A)) (strOfNums (topB l.length (innerM l))) 32)
def scanT (l : List S26) (A B : List (List Int)) : Nat → Nat → ByteArray × ByteArray × Bool
  | 0, _ => tailM l A
  | d + 1, k => if clashM (strOfNums (A.getD k [])) (strOfNums (B.getD k [])) 32 = true then (strOfNums (A.getD k []), strOfNums (B.getD k []), true) else scanT l A B d (k + 1)
/-- The way of the i-th itself. -/
def ownWay (l : List S26) (i : Int) (n : Nat) : List (List Int) × Bool := wayR (leafB (rd_T26 l i).f0 (rd_T26 l i).f1) n i.toNat (pathM l i.toNat)
def partM (l : List S26) (a b : ByteArray) (i n : Int) (path : List ByteArray) : ByteArray × ByteArray × Bool :=
  if ((1 ≤ n ∧ n ≤ 60) ∧ 0 ≤ i ∧ i < n) ∧ pokM l l.length 0 = true then
    if (wayR (leafB a b) n.toNat i.toNat path).2 = true then
      if (l.length : Int) = n then scanT l (wayR (leafB a b) n.toNat i.toNat path).1 (ownWay l i n.toNat).1 (wayR (leafB a b) n.toNat i.toNat path).1.length 0
      else tailM l (wayR (leafB a b) n.toNat i.toNat path).1
    else (⟨#[]⟩, ⟨#[]⟩, false)
  else (⟨#[]⟩, ⟨#[]⟩, false)
/-- No key and no value is great. -/
def FewP (l : List S26) : Prop := ∀ p ∈ l, p.f0.size ≤ 10000000 ∧ p.f1.size ≤ 10000000
theorem FewP.few {l : List S26} (h : FewP l) : Few l := fun p hp => ⟨by have := (h p hp).1; omega, by have := (h p hp).2; omega⟩
theorem FewP.rd {l : List S26} (h : FewP l) {i : Int} (h0 : 0 ≤ i) (h1 : i < l.length) : (rd_T26 l i).f0.size ≤ 10000000 ∧ (rd_T26 l i).f1.size ≤ 10000000 := by
  have : rd_T26 l i ∈ l := by
    unfold rd_T26
    rw [List.getD_eq_getElem?_getD, List.getElem?_eq_getElem (by omega)]
    exact List.getElem_mem _
  exact h _ this
theorem getD_ways {l : List (List Int)} (h : Ways l) {k : Nat} (hk : k < l.length) : By (l.getD k []) ∧ (l.getD k []).length ≤ 100000000 := by
  have : l.getD k [] ∈ l := by
    rw [List.getD_eq_getElem?_getD, List.getElem?_eq_getElem hk]
    exact List.getElem_mem _
  exact h _ this
theorem tailM_top (l : List S26) : (topB l.length (innerM l)).length ≤ 38 := by
  have h1 := topB_len l.length (innerM l)
  have h2 := innerM_size l
  omega
theorem impl_isFull_ev (a b : ByteArray) (ha : a.size ≤ 1000000000000) (hb : b.size ≤ 1000000000000) : Ev (fun q => impl_isFull.f q a b) (clashM a b 32) := by
  obtain ⟨K, e⟩ := Ev.get (impl_IsClash_ev a b 32 ha hb)
  refine ⟨K, fun q hq => ?_⟩
  show impl_isFull.f q a b = _
  unfold impl_isFull.f
  rw [e _ hq, Option.bind_some]
theorem rdL3_last (l : List (List Int)) (h : 0 < l.length) : rd_L4 l ((l.length - 1 : Nat) : Int) = lastL l := by
  unfold rd_L4 lastL
  rw [List.getLast?_eq_getElem?]
  simp [List.getD_eq_getElem?_getD]
theorem impl_PartAt_loop (l : List S26) (hl : l.length ≤ 1000000000) (hf : FewP l) (A B : List (List Int)) (hA : Ways A) (hB : Ways B) (hn : A.length ≤ 1000000000) (h0 : 0 < A.length) (hAB : A.length ≤ B.length) :
    ∀ d k : Nat, k + d = A.length → Ev (fun q => impl_PartAt.l0 q l A B (A.length : Int) (k : Int)) (scanT l A B d k) := by
  have ew : wrap64 ((A.length : Int) - 1) = ((A.length - 1 : Nat) : Int) := by rw [w64 (by omega) (by omega)]; omega
  intro d
  induction d with
  | zero =>
    intro k hk
    have hin := innerM_size l
    have htl := tailM_top l
    have hla := (lastL_ways hA).2
    obtain ⟨K1, e1⟩ := Ev.get (impl_innerOf_ev _ l rfl (by omega) hf.few)
    obtain ⟨K2, e2⟩ := Ev.get (impl_rootBytes_ev (l.length : Int) (innerM l) (by omega))
    obtain ⟨K3, e3⟩ := Ev.get (impl_isFull_ev (strOfNums (lastL A)) (strOfNums (topB l.length (innerM l))) (by rw [strOfNums_size]; omega) (by rw [strOfNums_size]; omega))
    refine ⟨K1 + K2 + K3 + 1, fun q hq => ?_⟩
    obtain ⟨q, rfl⟩ : ∃ m, q = m + 1 := ⟨q - 1, by omega⟩
    show impl_PartAt.l0 (q + 1) l A B _ _ = _
    simp only [impl_PartAt.l0]
    rw [if_neg (by omega), ew, if_pos (by omega), if_pos (by omega), e1 _ (by omega), Option.bind_some, e2 _ (by omega), Option.bind_some, rdL3_last A h0, e3 _ (by omega), Option.bind_some]
    rfl
  | succ d ih =>
    intro k hk
    have h1 := (getD_ways hA (show k < A.length by omega)).2
    have h2 := (getD_ways hB (show k < B.length by omega)).2
    obtain ⟨K1, e1⟩ := Ev.get (impl_isFull_ev (strOfNums (A.getD k [])) (strOfNums (B.getD k [])) (by rw [strOfNums_size]; omega) (by rw [strOfNums_size]; omega))
    obtain ⟨K2, e2⟩ := Ev.get (ih (k + 1) (by omega))
    refine ⟨K1 + K2 + 1, fun q hq => ?_⟩
    obtain ⟨q, rfl⟩ : ∃ m, q = m + 1 := ⟨q - 1, by omega⟩
    show impl_PartAt.l0 (q + 1) l A B _ _ = _
    simp only [impl_PartAt.l0]
    have ra : rd_L4 A (k : Int) = A.getD k [] := rfl
    have rb : rd_L4 B (k : Int) = B.getD k [] := rfl
    rw [if_pos (by omega), if_pos (by omega), if_pos (by omega), if_pos (by omega), ra, rb, e1 _ (by omega), Option.bind_some]
    unfold scanT
    by_cases c : clashM (strOfNums (A.getD k [])) (strOfNums (B.getD k [])) 32 = true
    · rw [if_pos c, if_pos c]
    · rw [if_neg c, if_neg c, w64 (by omega) (by omega)]
      exact e2 q (by omega)
theorem impl_PartAt_ev (l : List S26) (hl : l.length ≤ 1000000000) (hf : FewP l) (a b : ByteArray) (ha : a.size ≤ 10000000) (hb : b.size ≤ 10000000) (i n : Int) (hn : -9223372036854775808 ≤ n ∧ n ≤ 9223372036854775807) (path : List ByteArray) (hp : FewS path) (hpl : path.length ≤ 1000000000) :
    Ev (fun k => impl_PartAt.f k l a b i n path) (partM l a b i n path) := by
  have hlb := leafB_by a b
  have hll := leafB_len a b
  unfold partM
  obtain ⟨K0, e0⟩ := Ev.get (impl_PairsOk_ev l (by omega) (fun p hp => by have := (hf p hp).1; omega))
  by_cases h : (1 ≤ n ∧ n ≤ 60) ∧ 0 ≤ i ∧ i < n
  · by_cases hk : pokM l l.length 0 = true
    · rw [if_pos ⟨h, hk⟩]
      obtain ⟨m, rfl⟩ : ∃ m : Nat, n = (m : Int) := ⟨n.toNat, by omega⟩
      obtain ⟨j, rfl⟩ : ∃ j : Nat, i = (j : Int) := ⟨i.toNat, by omega⟩
      rw [Int.toNat_natCast, Int.toNat_natCast]
      obtain ⟨j1, j2, j3⟩ := wayR_ok hlb (by omega) m j path hp
      obtain ⟨d1, d2⟩ := wayR_depth (leafB a b) m j path
      obtain ⟨K1, e1⟩ := Ev.get (impl_wayTo_ev a b ha hb m j path (by omega) (by omega) (by omega) hp hpl)
      generalize wayR (leafB a b) m j path = r at *
      by_cases hr : r.2 = true
      · rw [if_pos hr]
        have h0 := j3 hr
        have hin := innerM_size l
        have htl := tailM_top l
        have hla := (lastL_ways j1).2
        by_cases hm : (l.length : Int) = (m : Int)
        · rw [if_pos hm]
          have hml : l.length = m := by omega
          have hfi := hf.rd (i := (j : Int)) (by omega) (by omega)
          have hpf := pathM_few _ l j rfl
          have hpd := pathM_depth _ l j hml
          have hpl2 := pathM_len _ l j rfl
          obtain ⟨K2, e2⟩ := Ev.get (impl_pathOf_ev _ l j rfl (by omega) (by omega) hf.few)
          obtain ⟨K3, e3⟩ := Ev.get (impl_wayTo_ev (rd_T26 l j).f0 (rd_T26 l j).f1 hfi.1 hfi.2 m j (pathM l j) (by omega) (by omega) (by omega) hpf (by omega))
          have hob := leafB_by (rd_T26 l j).f0 (rd_T26 l j).f1
          have hol := leafB_len (rd_T26 l j).f0 (rd_T26 l j).f1
          have hoe : ownWay l (j : Int) m = wayR (leafB (rd_T26 l j).f0 (rd_T26 l j).f1) m j (pathM l j) := rfl
          obtain ⟨o1, o2, o3⟩ := wayR_ok hob (by omega) m j (pathM l j) hpf
          obtain ⟨p1, p2⟩ := wayR_depth (leafB (rd_T26 l j).f0 (rd_T26 l j).f1) m j (pathM l j)
          rw [hoe]
          generalize wayR (leafB (rd_T26 l j).f0 (rd_T26 l j).f1) m j (pathM l j) = o at *
          have hlen : r.1.length = o.1.length := by rw [d2 hr, p2 (p1.2 hpd)]
          obtain ⟨K4, e4⟩ := Ev.get (impl_PartAt_loop l hl hf r.1 o.1 j1 o1 (by omega) h0 (by omega) r.1.length 0 (by omega))
          refine ⟨K0 + K1 + K2 + K3 + K4 + 1, fun k hk2 => ?_⟩
          show impl_PartAt.f k l a b _ _ path = _
          unfold impl_PartAt.f
          obtain ⟨k, rfl⟩ : ∃ m, k = m + 1 := ⟨k - 1, by omega⟩
          rw [isPlace_eq _ _ hn, Option.bind_some, if_pos (by simpa using h), e0 _ (by omega), Option.bind_some, hk]
          simp only [impl_PartAt.j0]
          rw [if_neg (by simp), e1 _ (by omega), Option.bind_some, if_pos hr, if_pos hm, if_pos (by omega), if_pos (by omega), e2 _ (by omega), Option.bind_some, e3 _ (by omega), Option.bind_some]
          exact e4 k (by omega)
        · rw [if_neg hm]
          have ew : wrap64 ((r.1.length : Int) - 1) = ((r.1.length - 1 : Nat) : Int) := by rw [w64 (by omega) (by omega)]; omega
          obtain ⟨K2, e2⟩ := Ev.get (impl_innerOf_ev _ l rfl (by omega) hf.few)
          obtain ⟨K3, e3⟩ := Ev.get (impl_rootBytes_ev (l.length : Int) (innerM l) (by omega))
          obtain ⟨K4, e4⟩ := Ev.get (impl_isFull_ev (strOfNums (lastL r.1)) (strOfNums (topB l.length (innerM l))) (by rw [strOfNums_size]; omega) (by rw [strOfNums_size]; omega))
          refine ⟨K0 + K1 + K2 + K3 + K4 + 1, fun k hk2 => ?_⟩
          show impl_PartAt.f k l a b _ _ path = _
          unfold impl_PartAt.f
          obtain ⟨k, rfl⟩ : ∃ m, k = m + 1 := ⟨k - 1, by omega⟩
          rw [isPlace_eq _ _ hn, Option.bind_some, if_pos (by simpa using h), e0 _ (by omega), Option.bind_some, hk]
          simp only [impl_PartAt.j0]
          rw [if_neg (by simp), e1 _ (by omega), Option.bind_some, if_pos hr, if_neg hm, ew, if_pos (by omega), if_pos (by omega), e2 _ (by omega), Option.bind_some, e3 _ (by omega), Option.bind_some, rdL3_last r.1 h0, e4 _ (by omega), Option.bind_some]
          rfl
      · rw [if_neg hr]
        refine ⟨K0 + K1 + 1, fun k hk2 => ?_⟩
        show impl_PartAt.f k l a b _ _ path = _
        unfold impl_PartAt.f
        obtain ⟨k, rfl⟩ : ∃ m, k = m + 1 := ⟨k - 1, by omega⟩
        rw [isPlace_eq _ _ hn, Option.bind_some, if_pos (by simpa using h), e0 _ (by omega), Option.bind_some, hk]
        simp only [impl_PartAt.j0]
        rw [if_neg (by simp), e1 _ (by omega), Option.bind_some, if_neg hr]
    · rw [if_neg (fun e => hk e.2)]
      refine ⟨K0 + 1, fun k hk2 => ?_⟩
      show impl_PartAt.f k l a b _ _ path = _
      unfold impl_PartAt.f
      obtain ⟨k, rfl⟩ : ∃ m, k = m + 1 := ⟨k - 1, by omega⟩
      rw [isPlace_eq _ _ hn, Option.bind_some, if_pos (by simpa using h), e0 _ (by omega), Option.bind_some, Bool.eq_false_iff.2 hk]
      simp only [impl_PartAt.j0]
      rw [if_pos (by simp)]
  · rw [if_neg (fun e => h e.1)]
    refine ⟨1, fun k hk => ?_⟩
    show impl_PartAt.f k l a b _ _ path = _
    unfold impl_PartAt.f
    obtain ⟨k, rfl⟩ : ∃ m, k = m + 1 := ⟨k - 1, by omega⟩
    rw [isPlace_eq _ _ hn, Option.bind_some, if_neg (by simpa using h)]
    simp only [impl_PartAt.j0]
    rw [if_pos trivial]
theorem spec_l6None_ev (l : List S26) (hl : l.length ≤ 1000000000) (hf : FewP l) : Ev (fun k => spec_l6None.f k l) (strOfNums (topB l.length (innerM l))) := by
  have hin := innerM_size l
  obtain ⟨K1, e1⟩ := Ev.get (spec_l4Inner_ev _ l rfl (by omega) hf.few)
  obtain ⟨K2, e2⟩ := Ev.get (spec_l4Top_ev (l.length : Int) (innerM l) (by omega))
  refine ⟨K1 + K2, fun k hk => ?_⟩
  show spec_l6None.f k l = _
  unfold spec_l6None.f
  rw [e1 _ (by omega), Option.bind_some, e2 _ (by omega), Option.bind_some]
theorem rdS_get (A : List (List Int)) {k : Nat} (hk : k < A.length) : rdOf ByteArray.empty (A.map strOfNums) (k : Int) = strOfNums (A.getD k []) := by
  rw [rdOf_nat _ _ (by rw [List.length_map]; exact hk), List.getElem_map, List.getD_eq_getElem?_getD, List.getElem?_eq_getElem hk]
  rfl
theorem spec_PartAt_loop (l : List S26) (hl : l.length ≤ 1000000000) (hf : FewP l) (A B : List (List Int)) (hA : Ways A) (hB : Ways B) (hn : A.length ≤ 1000000000) (h0 : 0 < A.length) (hAB : A.length ≤ B.length) :
    ∀ d k : Nat, k + d = A.length → Ev (fun q => spec_PartAt.l0 q l (A.map strOfNums) (B.map strOfNums) (k : Int)) (scanT l A B d k) := by
  have hml : (A.map strOfNums).length = A.length := List.length_map _
  have hml2 : (B.map strOfNums).length = B.length := List.length_map _
  have ew : wrap64 (((A.map strOfNums).length : Int) - 1) = (((A.map strOfNums).length - 1 : Nat) : Int) := by rw [w64 (by omega) (by omega)]; omega
  intro d
  induction d with
  | zero =>
    intro k hk
    have htl := tailM_top l
    have hla := (lastL_ways hA).2
    obtain ⟨K1, e1⟩ := Ev.get (spec_l6None_ev l hl hf)
    obtain ⟨K3, e3⟩ := Ev.get (spec_IsClash_ev (strOfNums (lastL A)) (strOfNums (topB l.length (innerM l))) 32 (by rw [strOfNums_size]; omega) (by rw [strOfNums_size]; omega))
    refine ⟨K1 + K3 + 1, fun q hq => ?_⟩
    obtain ⟨q, rfl⟩ : ∃ m, q = m + 1 := ⟨q - 1, by omega⟩
    show spec_PartAt.l0 (q + 1) l _ _ _ = _
    simp only [spec_PartAt.l0]
    rw [if_neg (by omega), ew, if_pos (by omega), if_pos (by omega), e1 _ (by omega), Option.bind_some, rd_last' _ (by omega) (by omega), lastS_map h0, e3 _ (by omega), Option.bind_some]
    rfl
  | succ d ih =>
    intro k hk
    have h1 := (getD_ways hA (show k < A.length by omega)).2
    have h2 := (getD_ways hB (show k < B.length by omega)).2
    obtain ⟨K1, e1⟩ := Ev.get (spec_IsClash_ev (strOfNums (A.getD k [])) (strOfNums (B.getD k [])) 32 (by rw [strOfNums_size]; omega) (by rw [strOfNums_size]; omega))
    obtain ⟨K2, e2⟩ := Ev.get (ih (k + 1) (by omega))
    refine ⟨K1 + K2 + 1, fun q hq => ?_⟩
    obtain ⟨q, rfl⟩ : ∃ m, q = m + 1 := ⟨q - 1, by omega⟩
    show spec_PartAt.l0 (q + 1) l _ _ _ = _
    simp only [spec_PartAt.l0]
    rw [if_pos (by omega), if_pos (by omega), if_pos (by omega), rdS_get A (by omega), rdS_get B (by omega), e1 _ (by omega), Option.bind_some]
    unfold scanT
    by_cases c : clashM (strOfNums (A.getD k [])) (strOfNums (B.getD k [])) 32 = true
    · rw [if_pos c, if_pos c]
    · rw [if_neg c, if_neg c, w64 (by omega) (by omega)]
      exact e2 q (by omega)
theorem spec_PartAt_ev (l : List S26) (hl : l.length ≤ 1000000000) (hf : FewP l) (a b : ByteArray) (ha : a.size ≤ 10000000) (hb : b.size ≤ 10000000) (i n : Int) (hn : -9223372036854775808 ≤ n ∧ n ≤ 9223372036854775807) (path : List ByteArray) (hp : FewS path) (hpl : path.length ≤ 1000000000) :
    Ev (fun k => spec_PartAt.f k l a b i n path) (partM l a b i n path) := by
  have hlb := leafB_by a b
  have hll := leafB_len a b
  unfold partM
  obtain ⟨K0, e0⟩ := Ev.get (spec_PairsOk_ev l (by omega) (fun p hp => by have := (hf p hp).1; omega))
  by_cases hk : pokM l l.length 0 = true
  · by_cases h : (1 ≤ n ∧ n ≤ 60) ∧ 0 ≤ i ∧ i < n
    · rw [if_pos ⟨h, hk⟩]
      obtain ⟨m, rfl⟩ : ∃ m : Nat, n = (m : Int) := ⟨n.toNat, by omega⟩
      obtain ⟨j, rfl⟩ : ∃ j : Nat, i = (j : Int) := ⟨i.toNat, by omega⟩
      rw [Int.toNat_natCast, Int.toNat_natCast]
      have hin1 : decide ((0 : Int) ≤ (j : Int) ∧ (j : Int) ≤ (m : Int) - 1) = true := by simp; omega
      obtain ⟨j1, j2, j3⟩ := wayR_ok hlb (by omega) m j path hp
      obtain ⟨d1, d2⟩ := wayR_depth (leafB a b) m j path
      obtain ⟨K9, e9⟩ := Ev.get (spec_l4Leaf_ev a b (by omega) (by omega))
      obtain ⟨K1, e1⟩ := Ev.get (spec_l4All_ev (leafB a b) hlb (by omega) m j path (by omega) (by omega) (by omega) hp hpl)
      generalize wayR (leafB a b) m j path = r at *
      by_cases hr : r.2 = true
      · rw [if_pos hr]
        have h0 := j3 hr
        have htl := tailM_top l
        have hla := (lastL_ways j1).2
        have hml : (r.1.map strOfNums).length = r.1.length := List.length_map _
        by_cases hm : (l.length : Int) = (m : Int)
        · rw [if_pos hm]
          have hml : l.length = m := by omega
          have hfi := hf.rd (i := (j : Int)) (by omega) (by omega)
          have hpf := pathM_few _ l j rfl
          have hpd := pathM_depth _ l j hml
          have hpl2 := pathM_len _ l j rfl
          have hob := leafB_by (rd_T26 l j).f0 (rd_T26 l j).f1
          have hol := leafB_len (rd_T26 l j).f0 (rd_T26 l j).f1
          obtain ⟨K2, e2⟩ := Ev.get (spec_l4Path_ev _ l j rfl (by omega) (by omega) hf.few)
          obtain ⟨K8, e8⟩ := Ev.get (spec_l4Leaf_ev (rd_T26 l j).f0 (rd_T26 l j).f1 (by omega) (by omega))
          obtain ⟨K3, e3⟩ := Ev.get (spec_l4All_ev (leafB (rd_T26 l j).f0 (rd_T26 l j).f1) hob (by omega) m j (pathM l j) (by omega) (by omega) (by omega) hpf (by omega))
          have hoe : ownWay l (j : Int) m = wayR (leafB (rd_T26 l j).f0 (rd_T26 l j).f1) m j (pathM l j) := rfl
          obtain ⟨o1, o2, o3⟩ := wayR_ok hob (by omega) m j (pathM l j) hpf
          obtain ⟨p1, p2⟩ := wayR_depth (leafB (rd_T26 l j).f0 (rd_T26 l j).f1) m j (pathM l j)
          rw [hoe]
          generalize wayR (leafB (rd_T26 l j).f0 (rd_T26 l j).f1) m j (pathM l j) = o at *
          have hlen : r.1.length = o.1.length := by rw [d2 hr, p2 (p1.2 hpd)]
          obtain ⟨K4, e4⟩ := Ev.get (spec_PartAt_loop l hl hf r.1 o.1 j1 o1 (by omega) h0 (by omega) r.1.length 0 (by omega))
          refine ⟨K0 + K1 + K2 + K3 + K4 + K8 + K9 + 1, fun k hk2 => ?_⟩
          show spec_PartAt.f k l a b _ _ path = _
          unfold spec_PartAt.f
          obtain ⟨k, rfl⟩ : ∃ m, k = m + 1 := ⟨k - 1, by omega⟩
          rw [e0 _ (by omega), Option.bind_some, if_pos hk, l1In_eq, Option.bind_some, if_pos (by simpa using h.1), w64 (by omega) (by omega), l1In_eq, Option.bind_some, hin1]
          simp only [spec_PartAt.j0]
          rw [if_neg (by simp), e9 _ (by omega), Option.bind_some, e1 _ (by omega), Option.bind_some]
          unfold strR at e3 ⊢
          simp only
          rw [if_pos hr, if_pos hm, if_pos (by omega), if_pos (by omega), e8 _ (by omega), Option.bind_some, e2 _ (by omega), Option.bind_some, e3 _ (by omega), Option.bind_some]
          exact e4 k (by omega)
        · rw [if_neg hm]
          have ew : wrap64 (((r.1.map strOfNums).length : Int) - 1) = (((r.1.map strOfNums).length - 1 : Nat) : Int) := by rw [w64 (by omega) (by omega)]; omega
          obtain ⟨K2, e2⟩ := Ev.get (spec_l6None_ev l hl hf)
          obtain ⟨K4, e4⟩ := Ev.get (spec_IsClash_ev (strOfNums (lastL r.1)) (strOfNums (topB l.length (innerM l))) 32 (by rw [strOfNums_size]; omega) (by rw [strOfNums_size]; omega))
          refine ⟨K0 + K1 + K2 + K4 + K9 + 1, fun k hk2 => ?_⟩
          show spec_PartAt.f k l a b _ _ path = _
          unfold spec_PartAt.f
          obtain ⟨k, rfl⟩ : ∃ m, k = m + 1 := ⟨k - 1, by omega⟩
          rw [e0 _ (by omega), Option.bind_some, if_pos hk, l1In_eq, Option.bind_some, if_pos (by simpa using h.1), w64 (by omega) (by omega), l1In_eq, Option.bind_some, hin1]
          simp only [spec_PartAt.j0]
          rw [if_neg (by simp), e9 _ (by omega), Option.bind_some, e1 _ (by omega), Option.bind_some]
          unfold strR
          simp only
          rw [if_pos hr, if_neg hm, ew, if_pos (by omega), if_pos (by omega), e2 _ (by omega), Option.bind_some, rd_last' _ (by omega) (by omega), lastS_map h0, e4 _ (by omega), Option.bind_some]
          rfl
      · rw [if_neg hr]
        refine ⟨K0 + K1 + K9 + 1, fun k hk2 => ?_⟩
        show spec_PartAt.f k l a b _ _ path = _
        unfold spec_PartAt.f
        obtain ⟨k, rfl⟩ : ∃ m, k = m + 1 := ⟨k - 1, by omega⟩
        rw [e0 _ (by omega), Option.bind_some, if_pos hk, l1In_eq, Option.bind_some, if_pos (by simpa using h.1), w64 (by omega) (by omega), l1In_eq, Option.bind_some, hin1]
        simp only [spec_PartAt.j0]
        rw [if_neg (by simp), e9 _ (by omega), Option.bind_some, e1 _ (by omega), Option.bind_some]
        unfold strR
        simp only
        rw [if_neg hr]
    · rw [if_neg (fun e => h e.1)]
      refine ⟨K0 + 1, fun k hk2 => ?_⟩
      show spec_PartAt.f k l a b _ _ path = _
      unfold spec_PartAt.f
      obtain ⟨k, rfl⟩ : ∃ m, k = m + 1 := ⟨k - 1, by omega⟩
      rw [e0 _ (by omega), Option.bind_some, if_pos hk, l1In_eq, Option.bind_some]
      by_cases h1 : 1 ≤ n ∧ n ≤ 60
      · rw [if_pos (by simpa using h1), w64 (by omega) (by omega), l1In_eq, Option.bind_some, show decide ((0 : Int) ≤ i ∧ i ≤ n - 1) = false by simp; omega]
        simp only [spec_PartAt.j0]
        rw [if_pos (by simp)]
      · rw [if_neg (by simpa using h1)]
        simp only [spec_PartAt.j0]
        rw [if_pos trivial]
  · rw [if_neg (fun e => hk e.2)]
    refine ⟨K0 + 1, fun k hk2 => ?_⟩
    show spec_PartAt.f k l a b _ _ path = _
    unfold spec_PartAt.f
    obtain ⟨k, rfl⟩ : ∃ m, k = m + 1 := ⟨k - 1, by omega⟩
    rw [e0 _ (by omega), Option.bind_some, if_neg hk]
    simp only [spec_PartAt.j0]
    rw [if_pos trivial]
end Go.Proofs.Ythkaifddpjjmaaa.P
