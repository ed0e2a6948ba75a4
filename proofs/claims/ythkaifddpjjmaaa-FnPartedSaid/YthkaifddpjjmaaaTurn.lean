/- Two rows of pairs that differ at one place: PartAt finds a clash there just if their roots are one. -/
import Derived.Test.YthkaifddpjjmaaaSound
import Derived.Test.YthkaifddpjjmaaaPx0
namespace Go.Proofs.Ythkaifddpjjmaaa.P
open Go.RowKit Go.Proofs.YthkaifddpjjmaaaW.PrintWords Go.Proofs.YthkaifddpjjmaaaW.PrintLast Go.Proofs.YthkaifddpjjmaaaW.PrintMore
set_option linter.unusedVariables false
set_option linter.unusedSimpArgs false
theorem pathM_set : ∀ (n : Nat) (l : List S26) (i : Nat) (p : S26), l.length = n → i < n → pathM (l.set i p) i = pathM l i := by
  intro n
  induction n using Nat.strongRecOn with
  | _ n ih =>
    intro l i p hl hi
    have hs : (l.set i p).length = l.length := List.length_set
    rw [pathM, pathM.eq_def l i]
    by_cases h : 2 ≤ l.length
    · have hh := halfM_lt h
      rw [dif_pos (by omega), dif_pos h, hs]
      have hlt : (l.take (halfM l.length)).length = halfM l.length := by rw [List.length_take]; omega
      have hld : (l.drop (halfM l.length)).length = l.length - halfM l.length := List.length_drop
      by_cases hi2 : i < halfM l.length
      · rw [if_pos hi2, if_pos hi2]
        have e1 : (l.set i p).take (halfM l.length) = (l.take (halfM l.length)).set i p := by rw [List.take_set]
        have e2 : (l.set i p).drop (halfM l.length) = l.drop (halfM l.length) := by rw [List.drop_set, if_pos hi2]
        rw [e1, e2, ih _ (by omega) _ i p hlt hi2]
      · rw [if_neg hi2, if_neg hi2]
        have e1 : (l.set i p).take (halfM l.length) = l.take (halfM l.length) := by rw [List.take_set, List.set_eq_of_length_le (by omega)]
        have e2 : (l.set i p).drop (halfM l.length) = (l.drop (halfM l.length)).set (i - halfM l.length) p := by rw [List.drop_set, if_neg hi2]
        rw [e1, e2, ih _ (by omega) _ (i - halfM l.length) p hld (by omega)]
    · rw [dif_neg (by omega), dif_neg h]
/-- Where two ways along one path have unlike texts of one digest, they lead to one digest. -/
theorem climb_same (leaf leaf' : List Int) : ∀ (n i : Nat) (path : List ByteArray), (climbR leaf n i path).2 = true → ∀ j, j < (climbR leaf n i path).1.length →
    digM ((climbR leaf n i path).1.getD j []) = digM ((climbR leaf' n i path).1.getD j []) → digM (lastL (climbR leaf n i path).1) = digM (lastL (climbR leaf' n i path).1) := by
  intro n
  induction n using Nat.strongRecOn with
  | _ n ih =>
    intro i path h1 j hj he
    have d0 := climbR_depth leaf n i path
    have h2 : (climbR leaf' n i path).2 = true := (climbR_depth leaf' n i path).1.2 (d0.1.1 h1)
    rw [climbR] at h1 hj he ⊢
    rw [climbR.eq_def leaf' n i path] at h2 he ⊢
    by_cases h : 2 ≤ n
    · have hh := halfM_lt h
      rw [dif_pos h] at h1 h2 hj
      rw [dif_pos h, dif_pos h] at he ⊢
      by_cases z1 : path.length = 0
      · rw [if_pos z1] at h1; cases h1
      rw [if_neg z1] at h1 h2 hj
      rw [if_neg z1, if_neg z1] at he ⊢
      by_cases hi : i < halfM n
      · rw [if_pos hi] at h1 h2 hj
        rw [if_pos hi, if_pos hi] at he ⊢
        have I := ih (halfM n) (by omega) i (path.take (path.length - 1))
        have q1 := (climbR_depth leaf (halfM n) i (path.take (path.length - 1))).2
        have q2 := (climbR_depth leaf' (halfM n) i (path.take (path.length - 1))).2
        by_cases r1 : (climbR leaf (halfM n) i (path.take (path.length - 1))).2 = true
        · by_cases r2 : (climbR leaf' (halfM n) i (path.take (path.length - 1))).2 = true
          · have q1 := q1 r1
            have q2 := q2 r2
            rw [if_pos r1] at hj
            rw [if_pos r1, if_pos r2] at he ⊢
            by_cases hjl : j < (climbR leaf (halfM n) i (path.take (path.length - 1))).1.length
            · simp only [getD_snoc_lt hjl] at he
              rw [getD_snoc_lt (by omega)] at he
              rw [lastL_snoc, lastL_snoc, I r1 j hjl he]
            · have hj2 : j = (climbR leaf (halfM n) i (path.take (path.length - 1))).1.length := by simp at hj; omega
              rw [getD_snoc hj2, getD_snoc (by omega)] at he
              rw [lastL_snoc, lastL_snoc]
              exact he
          · rw [if_neg r2] at h2; cases h2
        · rw [if_neg r1] at h1; cases h1
      · rw [if_neg hi] at h1 h2 hj
        rw [if_neg hi, if_neg hi] at he ⊢
        have I := ih (n - halfM n) (by omega) (i - halfM n) (path.take (path.length - 1))
        have q1 := (climbR_depth leaf (n - halfM n) (i - halfM n) (path.take (path.length - 1))).2
        have q2 := (climbR_depth leaf' (n - halfM n) (i - halfM n) (path.take (path.length - 1))).2
        by_cases r1 : (climbR leaf (n - halfM n) (i - halfM n) (path.take (path.length - 1))).2 = true
        · by_cases r2 : (climbR leaf' (n - halfM n) (i - halfM n) (path.take (path.length - 1))).2 = true
          · have q1 := q1 r1
            have q2 := q2 r2
            rw [if_pos r1] at hj
            rw [if_pos r1, if_pos r2] at he ⊢
            by_cases hjl : j < (climbR leaf (n - halfM n) (i - halfM n) (path.take (path.length - 1))).1.length
            · simp only [getD_snoc_lt hjl] at he
              rw [getD_snoc_lt (by omega)] at he
              rw [lastL_snoc, lastL_snoc, I r1 j hjl he]
            · have hj2 : j = (climbR leaf (n - halfM n) (i - halfM n) (path.take (path.length - 1))).1.length := by simp at hj; omega
              rw [getD_snoc hj2, getD_snoc (by omega)] at he
              rw [lastL_snoc, lastL_snoc]
              exact he
          · rw [if_neg r2] at h2; cases h2
        · rw [if_neg r1] at h1; cases h1
    · rw [dif_neg h] at hj
      rw [dif_neg h, dif_neg h] at he ⊢
      have hj0 : j = 0 := by simp at hj; omega
      subst hj0
      exact he
theorem climb_by (leaf : List Int) (hb : By leaf) : ∀ (n i : Nat) (path : List ByteArray) (j : Nat), By ((climbR leaf n i path).1.getD j []) := by
  have key : ∀ (n i : Nat) (path : List ByteArray), ∀ x ∈ (climbR leaf n i path).1, By x := by
    intro n
    induction n using Nat.strongRecOn with
    | _ n ih =>
      intro i path
      rw [climbR]
      have nil : ∀ x ∈ (([], false) : List (List Int) × Bool).1, By x := fun x hx => absurd hx List.not_mem_nil
      by_cases h : 2 ≤ n
      · have hh := halfM_lt h
        rw [dif_pos h]
        by_cases z1 : path.length = 0
        · rw [if_pos z1]; exact nil
        rw [if_neg z1]
        by_cases hi : i < halfM n
        · rw [if_pos hi]
          by_cases r1 : (climbR leaf (halfM n) i (path.take (path.length - 1))).2 = true
          · rw [if_pos r1]
            intro x hx
            rcases List.mem_append.1 hx with h1 | h1
            · exact ih _ (by omega) _ _ x h1
            · rw [List.mem_singleton.1 h1]; exact nodeB_by _ _
          · rw [if_neg r1]; exact nil
        · rw [if_neg hi]
          by_cases r1 : (climbR leaf (n - halfM n) (i - halfM n) (path.take (path.length - 1))).2 = true
          · rw [if_pos r1]
            intro x hx
            rcases List.mem_append.1 hx with h1 | h1
            · exact ih _ (by omega) _ _ x h1
            · rw [List.mem_singleton.1 h1]; exact nodeB_by _ _
          · rw [if_neg r1]; exact nil
      · rw [dif_neg h]
        intro x hx
        rw [List.mem_singleton.1 hx]
        exact hb
  intro n i path j
  rw [List.getD_eq_getElem?_getD]
  cases hq : (climbR leaf n i path).1[j]? with
  | none => exact By.nil
  | some x => exact key n i path x (List.mem_of_getElem? hq)
theorem climb_ok_way {leaf : List Int} {n i : Nat} {path : List ByteArray} (h : path.length = depthM n i) :
    (wayR leaf n i path).1 = (climbR leaf n i path).1 ++ [topB n (digM (lastL (climbR leaf n i path).1))] ∧ (wayR leaf n i path).2 = true := by
  have := (climbR_depth leaf n i path).1.2 h
  unfold wayR
  rw [if_pos this]
  exact ⟨rfl, rfl⟩
/-- The honest way is taken. -/
theorem check_own {l : List S26} (h60 : l.length ≤ 60) {i : Nat} (hi : i < l.length) :
    checkM (leafB (rd_T26 l (i : Int)).f0 (rd_T26 l (i : Int)).f1) (i : Int) (l.length : Int) (pathM l i) (rootOfM l) = true := by
  unfold checkM
  rw [if_pos (by omega), Int.toNat_natCast, Int.toNat_natCast]
  obtain ⟨w1, w2⟩ := climb_ok_way (leaf := leafB (rd_T26 l (i : Int)).f0 (rd_T26 l (i : Int)).f1) (pathM_depth l.length l i rfl)
  rw [if_pos w2, w1, lastL_snoc, climb_own l.length l i rfl hi, rootOfM_60 h60]
  simp
theorem scanT_yes {l : List S26} {A B : List (List Int)} : ∀ d k : Nat, (scanT l A B d k).2.2 = true →
    (∃ j, k ≤ j ∧ j < k + d ∧ clashM (strOfNums (A.getD j [])) (strOfNums (B.getD j [])) 32 = true) ∨ (tailM l A).2.2 = true := by
  intro d
  induction d with
  | zero => intro k h; exact .inr h
  | succ d ih =>
    intro k h
    unfold scanT at h
    by_cases c : clashM (strOfNums (A.getD k [])) (strOfNums (B.getD k [])) 32 = true
    · exact .inl ⟨k, by omega, by omega, c⟩
    · rw [if_neg c] at h
      rcases ih (k + 1) h with ⟨j, h1, h2, h3⟩ | h1
      · exact .inl ⟨j, by omega, by omega, h3⟩
      · exact .inr h1
/-- A clash that PartAt finds for the own path of a changed pair makes the roots one. -/
theorem part_turn {l : List S26} {i : Nat} (hi : i < l.length) {p : S26}
    (h : (partM l p.f0 p.f1 (i : Int) (l.length : Int) (pathM (l.set i p) i)).2.2 = true) : rootM (l.set i p) = rootM l := by
  have hset : (l.set i p).length = l.length := List.length_set
  have hrd : rd_T26 (l.set i p) (i : Int) = p := by
    unfold rd_T26
    rw [List.getD_eq_getElem?_getD, Int.toNat_natCast, List.getElem?_set_self hi]
    rfl
  have hpath := pathM_set l.length l i p rfl hi
  rw [hpath] at h
  have hpd := pathM_depth l.length l i rfl
  obtain ⟨w1, w2⟩ := climb_ok_way (leaf := leafB p.f0 p.f1) hpd
  obtain ⟨o1, o2⟩ := climb_ok_way (leaf := leafB (rd_T26 l (i : Int)).f0 (rd_T26 l (i : Int)).f1) hpd
  have hc2 := (climbR_depth (leafB p.f0 p.f1) l.length i (pathM l i)).1.2 hpd
  have hl1 := (climbR_depth (leafB p.f0 p.f1) l.length i (pathM l i)).2 hc2
  have hl2 := (climbR_depth (leafB (rd_T26 l (i : Int)).f0 (rd_T26 l (i : Int)).f1) l.length i (pathM l i)).2 ((climbR_depth _ l.length i (pathM l i)).1.2 hpd)
  have ownm := climb_own l.length (l.set i p) i hset hi
  rw [hrd, hpath] at ownm
  have ownl := climb_own l.length l i rfl hi
  have hways := (wayR_depth (leafB p.f0 p.f1) l.length i (pathM l i)).2 w2
  have goal : digM (topB l.length (innerM (l.set i p))) = digM (topB l.length (innerM l)) → rootM (l.set i p) = rootM l := by
    intro e
    unfold rootM
    rw [hset]
    exact e
  unfold partM at h
  by_cases c1 : ((1 ≤ (l.length : Int) ∧ (l.length : Int) ≤ 60) ∧ 0 ≤ (i : Int) ∧ (i : Int) < (l.length : Int)) ∧ pokM l l.length 0 = true
  · rw [if_pos c1, Int.toNat_natCast, Int.toNat_natCast, if_pos w2, if_pos rfl] at h
    rw [w1] at h
    have how : (ownWay l (i : Int) l.length).1 = (climbR (leafB (rd_T26 l (i : Int)).f0 (rd_T26 l (i : Int)).f1) l.length i (pathM l i)).1 ++ [topB l.length (digM (lastL (climbR (leafB (rd_T26 l (i : Int)).f0 (rd_T26 l (i : Int)).f1) l.length i (pathM l i)).1))] := by
      unfold ownWay
      rw [Int.toNat_natCast, o1]
    rw [how, ownm, ownl] at h
    rcases scanT_yes _ _ h with ⟨j, _, hj, hcl⟩ | ht
    · by_cases hjl : j < (climbR (leafB p.f0 p.f1) l.length i (pathM l i)).1.length
      · rw [getD_snoc_lt hjl, getD_snoc_lt (by omega)] at hcl
        have hd : digM ((climbR (leafB p.f0 p.f1) l.length i (pathM l i)).1.getD j []) = digM ((climbR (leafB (rd_T26 l (i : Int)).f0 (rd_T26 l (i : Int)).f1) l.length i (pathM l i)).1.getD j []) :=
          (clash_dig (climb_by _ (leafB_by _ _) _ _ _ _) (climb_by _ (leafB_by _ _) _ _ _ _) hcl).2
        have he := climb_same (leafB p.f0 p.f1) (leafB (rd_T26 l (i : Int)).f0 (rd_T26 l (i : Int)).f1) l.length i (pathM l i) hc2 j hjl hd
        rw [ownm, ownl] at he
        exact goal (by rw [he])
      · have hj2 : j = (climbR (leafB p.f0 p.f1) l.length i (pathM l i)).1.length := by simp at hj; omega
        rw [getD_snoc hj2, getD_snoc (by omega)] at hcl
        exact goal (clash_dig (topB_by _ _) (topB_by _ _) hcl).2
    · unfold tailM at ht
      rw [lastL_snoc] at ht
      exact goal (clash_dig (topB_by _ _) (topB_by _ _) ht).2
  · rw [if_neg c1] at h; cases h
theorem getD_size {A : List (List Int)} (h : Ways A) (j : Nat) : (strOfNums (A.getD j [])).size ≤ 1000000000000 := by
  rw [strOfNums_size, List.getD_eq_getElem?_getD]
  cases hq : A[j]? with
  | none => simp
  | some x => have := (h x (List.mem_of_getElem? hq)).2; simp only [Option.getD_some]; omega
theorem tailM_size {l : List S26} {A : List (List Int)} (hA : Ways A) : (tailM l A).1.size ≤ 1000000000000 ∧ (tailM l A).2.1.size ≤ 1000000000000 := by
  have h1 := (lastL_ways hA).2
  have h2 := tailM_top l
  unfold tailM
  exact ⟨by show (strOfNums _).size ≤ _; rw [strOfNums_size]; omega, by show (strOfNums _).size ≤ _; rw [strOfNums_size]; omega⟩
theorem scanT_size {l : List S26} {A B : List (List Int)} (hA : Ways A) (hB : Ways B) : ∀ d k : Nat, (scanT l A B d k).1.size ≤ 1000000000000 ∧ (scanT l A B d k).2.1.size ≤ 1000000000000 := by
  intro d
  induction d with
  | zero => intro k; exact tailM_size hA
  | succ d ih =>
    intro k
    unfold scanT
    by_cases c : clashM (strOfNums (A.getD k [])) (strOfNums (B.getD k [])) 32 = true
    · rw [if_pos c]; exact ⟨getD_size hA k, getD_size hB k⟩
    · rw [if_neg c]; exact ih (k + 1)
theorem partM_size {l : List S26} (hf : FewP l) {a b : ByteArray} (ha : a.size ≤ 10000000) (hb : b.size ≤ 10000000) {i n : Int} {path : List ByteArray} (hp : FewS path) :
    (partM l a b i n path).1.size ≤ 1000000000000 ∧ (partM l a b i n path).2.1.size ≤ 1000000000000 := by
  have hll := leafB_len a b
  have hw := (wayR_ok (leafB_by a b) (by omega) n.toNat i.toNat path hp).1
  unfold partM
  by_cases c1 : ((1 ≤ n ∧ n ≤ 60) ∧ 0 ≤ i ∧ i < n) ∧ pokM l l.length 0 = true
  · rw [if_pos c1]
    by_cases c2 : (wayR (leafB a b) n.toNat i.toNat path).2 = true
    · rw [if_pos c2]
      by_cases c3 : (l.length : Int) = n
      · rw [if_pos c3]
        have hr := hf.rd (i := i) (by omega) (by omega)
        have hol := leafB_len (rd_T26 l i).f0 (rd_T26 l i).f1
        exact scanT_size hw (wayR_ok (leafB_by _ _) (by omega) n.toNat i.toNat (pathM l i.toNat) (pathM_few _ l _ rfl)).1 _ _
      · rw [if_neg c3]; exact tailM_size hw
    · rw [if_neg c2]; exact ⟨Nat.zero_le _, Nat.zero_le _⟩
  · rw [if_neg c1]; exact ⟨Nat.zero_le _, Nat.zero_le _⟩
end Go.Proofs.Ythkaifddpjjmaaa.P
