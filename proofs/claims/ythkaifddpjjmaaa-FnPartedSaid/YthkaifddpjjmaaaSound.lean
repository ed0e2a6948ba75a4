/- What a way to a root shows: the pair itself, or a clash. No condition but bounds on lengths. -/
import Derived.Test.YthkaifddpjjmaaaPart
import Derived.Test.YthkaifddpjjmaaaPx0
namespace Go.Proofs.Ythkaifddpjjmaaa.P
open Go.RowKit Go.Proofs.YthkaifddpjjmaaaW.PrintWords Go.Proofs.YthkaifddpjjmaaaW.PrintLast Go.Proofs.YthkaifddpjjmaaaW.PrintMore
set_option linter.unusedVariables false
set_option linter.unusedSimpArgs false
theorem encN_inj : ∀ (m n : Nat) (x y : List Int), encN m ++ x = encN n ++ y → m = n ∧ x = y := by
  intro m
  induction m using Nat.strongRecOn with
  | _ m ih =>
    intro n x y h
    by_cases hm : 127 < m
    · by_cases hn : 127 < n
      · rw [encN_big hm, encN_big hn, List.cons_append, List.cons_append] at h
        obtain ⟨h1, h2⟩ := List.cons.inj h
        obtain ⟨e, ex⟩ := ih (m / 128) (by omega) (n / 128) x y h2
        exact ⟨by omega, ex⟩
      · rw [encN_big hm, encN_small (n := n) (by omega), List.cons_append, List.cons_append] at h
        have h1 := (List.cons.inj h).1
        omega
    · by_cases hn : 127 < n
      · rw [encN_small (n := m) (by omega), encN_big hn, List.cons_append, List.cons_append] at h
        have h1 := (List.cons.inj h).1
        omega
      · rw [encN_small (n := m) (by omega), encN_small (n := n) (by omega), List.cons_append, List.cons_append] at h
        obtain ⟨h1, h2⟩ := List.cons.inj h
        exact ⟨by omega, by simpa using h2⟩
theorem clampN_id {n : Int} (h0 : 0 ≤ n) (h1 : n ≤ 1000000000) : clampN n = n.toNat := by
  unfold clampN
  rw [if_neg (by omega), if_neg (by omega)]
theorem bytesOf_inj {s t : ByteArray} (h : bytesOf s = bytesOf t) : s = t := by
  have key : ∀ u : ByteArray, strOfNums (bytesOf u) = u := by
    intro u
    unfold strOfNums bytesOf
    rw [List.map_map]
    have : (u.data.toList.map ((fun x : Int => UInt8.ofNat x.toNat) ∘ fun b : UInt8 => (b.toNat : Int))) = u.data.toList := by
      conv => rhs; rw [← List.map_id u.data.toList]
      apply List.map_congr_left
      intro x _
      simp
    first | (rw [this]; rfl) | (simp [this]) | (show ByteArray.mk (List.toArray _) = _; rw [this])
  rw [← key s, h, key t]
theorem topB_inj {m n : Int} {s t : ByteArray} (hm : 0 ≤ m ∧ m ≤ 1000000000) (hn : 0 ≤ n ∧ n ≤ 1000000000) (h : topB m s = topB n t) : m = n ∧ s = t := by
  unfold topB putNumM at h
  rw [List.append_assoc, List.append_assoc] at h
  obtain ⟨e, ex⟩ := encN_inj _ _ _ _ (List.append_cancel_left h)
  rw [clampN_id hm.1 hm.2, clampN_id hn.1 hn.2] at e
  exact ⟨by omega, bytesOf_inj ex⟩
theorem leafB_inj {a b c d : ByteArray} (ha : a.size ≤ 1000000000) (hb : b.size ≤ 1000000000) (hc : c.size ≤ 1000000000) (hd : d.size ≤ 1000000000) (h : leafB a b = leafB c d) : a = c ∧ b = d := by
  unfold leafB putTextM putNumM at h
  simp only [List.append_assoc] at h
  obtain ⟨e, ex⟩ := encN_inj _ _ _ _ (List.append_cancel_left h)
  rw [clampN_id (by omega) (by omega), clampN_id (by omega) (by omega)] at e
  obtain ⟨e1, e2⟩ := List.append_inj ex (by rw [bytesOf_length, bytesOf_length]; omega)
  obtain ⟨_, e3⟩ := encN_inj _ _ _ _ e2
  exact ⟨bytesOf_inj e1, bytesOf_inj e3⟩
theorem strOfNums_inj {A B : List Int} (hA : By A) (hB : By B) (h : strOfNums A = strOfNums B) : A = B := by
  rw [← bytesOf_strOfNums hA, h, bytesOf_strOfNums hB]
theorem toList_inj {a b : ByteArray} (h : a.toList = b.toList) : a = b := by
  rw [ByteArray.toList_eq, ByteArray.toList_eq] at h
  cases a with
  | mk x =>
    cases b with
    | mk y =>
      have : x = y := by simpa using h
      rw [this]
theorem noClash {A B : List Int} (hA : By A) (hB : By B) (h : clashM (strOfNums A) (strOfNums B) 32 = false) (hd : digM A = digM B) : A = B := by
  unfold clashM at h
  by_cases c : (strOfNums A).toList = (strOfNums B).toList
  · exact strOfNums_inj hA hB (toList_inj c)
  · rw [if_neg c, if_pos (by omega), bytesOf_strOfNums hA, bytesOf_strOfNums hB, hd] at h
    simp at h
theorem isClash {A B : List Int} (hA : By A) (hB : By B) (hn : A ≠ B) (hd : digM A = digM B) : clashM (strOfNums A) (strOfNums B) 32 = true := by
  cases h : clashM (strOfNums A) (strOfNums B) 32 with
  | true => rfl
  | false => exact absurd (noClash hA hB h hd) hn
theorem clash_dig {A B : List Int} (hA : By A) (hB : By B) (h : clashM (strOfNums A) (strOfNums B) 32 = true) : A ≠ B ∧ digM A = digM B := by
  unfold clashM at h
  by_cases c : (strOfNums A).toList = (strOfNums B).toList
  · rw [if_pos c] at h; cases h
  · rw [if_neg c, if_pos (by omega), bytesOf_strOfNums hA, bytesOf_strOfNums hB, beq_iff_eq] at h
    refine ⟨fun e => c (by rw [e]), toList_inj ?_⟩
    have key : ∀ X : List Int, ((digM X).extract 0 (32 : Int).toNat).toList = (digM X).toList := by
      intro X
      have hs : (digM X).data.toList.length = 32 := digM_size X
      rw [ByteArray.toList_eq, ByteArray.toList_eq]
      simp only [ByteArray.data_extract, Array.toList_extract, List.extract_eq_take_drop, Nat.sub_zero, List.drop_zero]
      exact List.take_of_length_le (by rw [hs]; decide)
    rw [key, key] at h
    exact h
theorem scanT_no {l : List S26} {A B : List (List Int)} : ∀ d k : Nat, (scanT l A B d k).2.2 = false →
    (∀ j, k ≤ j → j < k + d → clashM (strOfNums (A.getD j [])) (strOfNums (B.getD j [])) 32 = false) ∧ (tailM l A).2.2 = false := by
  intro d
  induction d with
  | zero => intro k h; exact ⟨fun j h1 h2 => by omega, h⟩
  | succ d ih =>
    intro k h
    unfold scanT at h
    by_cases c : clashM (strOfNums (A.getD k [])) (strOfNums (B.getD k [])) 32 = true
    · rw [if_pos c] at h; cases h
    · rw [if_neg c] at h
      obtain ⟨h1, h2⟩ := ih (k + 1) h
      refine ⟨fun j hj hj2 => ?_, h2⟩
      by_cases e : j = k
      · rw [e]; simpa using c
      · exact h1 j (by omega) (by omega)
theorem scanT_clash {l : List S26} {A B : List (List Int)} : ∀ d k : Nat, (scanT l A B d k).2.2 = true → clashM (scanT l A B d k).1 (scanT l A B d k).2.1 32 = true := by
  intro d
  induction d with
  | zero => intro k h; exact h
  | succ d ih =>
    intro k h
    unfold scanT at h ⊢
    by_cases c : clashM (strOfNums (A.getD k [])) (strOfNums (B.getD k [])) 32 = true
    · rw [if_pos c]; exact c
    · rw [if_neg c] at h ⊢
      exact ih (k + 1) h
theorem partM_clash {l : List S26} {a b : ByteArray} {i n : Int} {path : List ByteArray} (h : (partM l a b i n path).2.2 = true) : clashM (partM l a b i n path).1 (partM l a b i n path).2.1 32 = true := by
  unfold partM at h ⊢
  by_cases c1 : ((1 ≤ n ∧ n ≤ 60) ∧ 0 ≤ i ∧ i < n) ∧ pokM l l.length 0 = true
  · rw [if_pos c1] at h ⊢
    by_cases c2 : (wayR (leafB a b) n.toNat i.toNat path).2 = true
    · rw [if_pos c2] at h ⊢
      by_cases c3 : (l.length : Int) = n
      · rw [if_pos c3] at h ⊢; exact scanT_clash _ _ h
      · rw [if_neg c3] at h ⊢; exact h
    · rw [if_neg c2] at h; cases h
  · rw [if_neg c1] at h; cases h
theorem pokM_le60 {l : List S26} : ∀ d i : Nat, pokM l d i = true → l.length ≤ 60 := by
  intro d
  induction d with
  | zero => intro i h; unfold pokM at h; have := of_decide_eq_true h; omega
  | succ d ih =>
    intro i h
    unfold pokM at h
    split at h
    · split at h
      · split at h
        · exact ih _ h
        · cases h
      · exact ih _ h
    · cases h
theorem lastL_snoc (l : List (List Int)) (x : List Int) : lastL (l ++ [x]) = x := by
  unfold lastL
  rw [List.getLast?_append]
  rfl
theorem lastS_snoc (l : List ByteArray) (x : ByteArray) : lastS (l ++ [x]) = x := by
  unfold lastS
  rw [List.getLast?_append]
  rfl
theorem rdP_take (l : List S26) {k i : Nat} (h : i < k) : rd_T26 (l.take k) (i : Int) = rd_T26 l (i : Int) := by
  unfold rd_T26
  rw [List.getD_eq_getElem?_getD, List.getD_eq_getElem?_getD, Int.toNat_natCast, List.getElem?_take, if_pos h]
theorem rdP_drop (l : List S26) {k i : Nat} (h : k ≤ i) : rd_T26 (l.drop k) ((i - k : Nat) : Int) = rd_T26 l (i : Int) := by
  unfold rd_T26
  rw [List.getD_eq_getElem?_getD, List.getD_eq_getElem?_getD, Int.toNat_natCast, Int.toNat_natCast, List.getElem?_drop, show k + (i - k) = i by omega]
/-- The own way leads to the inner digest. -/
theorem climb_own : ∀ (n : Nat) (l : List S26) (i : Nat), l.length = n → i < n →
    digM (lastL (climbR (leafB (rd_T26 l (i : Int)).f0 (rd_T26 l (i : Int)).f1) n i (pathM l i)).1) = innerM l := by
  intro n
  induction n using Nat.strongRecOn with
  | _ n ih =>
    intro l i hl hi
    by_cases h : 2 ≤ n
    · have hh := halfM_lt h
      rw [climbR, dif_pos h, pathM, dif_pos (by omega), innerM_two l (by omega), hl]
      by_cases hi2 : i < halfM n
      · rw [if_pos hi2, if_pos hi2]
        have e1 : (pathM (l.take (halfM n)) i ++ [innerM (l.drop (halfM n))]).length = (pathM (l.take (halfM n)) i).length + 1 := by simp
        have e2 : (pathM (l.take (halfM n)) i ++ [innerM (l.drop (halfM n))]).take ((pathM (l.take (halfM n)) i).length + 1 - 1) = pathM (l.take (halfM n)) i := by simp
        have l1 : (l.take (halfM n)).length = halfM n := by rw [List.length_take]; omega
        have r1 := ih (halfM n) (by omega) (l.take (halfM n)) i l1 hi2
        rw [rdP_take l hi2] at r1
        rw [e1, if_neg (by omega), e2, if_pos ((climbR_depth _ _ _ _).1.2 (pathM_depth _ _ _ l1)), lastL_snoc, r1, lastS_snoc]
        rfl
      · rw [if_neg hi2, if_neg hi2]
        have e1 : (pathM (l.drop (halfM n)) (i - halfM n) ++ [innerM (l.take (halfM n))]).length = (pathM (l.drop (halfM n)) (i - halfM n)).length + 1 := by simp
        have e2 : (pathM (l.drop (halfM n)) (i - halfM n) ++ [innerM (l.take (halfM n))]).take ((pathM (l.drop (halfM n)) (i - halfM n)).length + 1 - 1) = pathM (l.drop (halfM n)) (i - halfM n) := by simp
        have l1 : (l.drop (halfM n)).length = n - halfM n := by rw [List.length_drop]; omega
        have r1 := ih (n - halfM n) (by omega) (l.drop (halfM n)) (i - halfM n) l1 (by omega)
        rw [rdP_drop l (by omega)] at r1
        rw [e1, if_neg (by omega), e2, if_pos ((climbR_depth _ _ _ _).1.2 (pathM_depth _ _ _ l1)), lastL_snoc, r1, lastS_snoc]
        rfl
    · match l, hl with
      | [], hl => simp at hl; omega
      | [p], hl =>
        have hi0 : i = 0 := by simp at hl; omega
        subst hi0
        rw [climbR, dif_neg h, innerM_one]
        rfl
      | _ :: _ :: _, hl => simp at hl; omega
theorem nodeB_left {a b c d : ByteArray} (ha : a.size = 32) (hc : c.size = 32) (h : nodeB a b = nodeB c d) : a = c := by
  unfold nodeB at h
  rw [List.append_assoc, List.append_assoc] at h
  exact bytesOf_inj (List.append_inj (List.append_cancel_left h) (by rw [bytesOf_length, bytesOf_length, ha, hc])).1
theorem nodeB_right {a b c d : ByteArray} (hb : b.size = 32) (hd : d.size = 32) (h : nodeB a b = nodeB c d) : b = d := by
  unfold nodeB at h
  exact bytesOf_inj (List.append_inj' h (by rw [bytesOf_length, bytesOf_length, hb, hd])).2
theorem getD_snoc_lt {l : List (List Int)} {x : List Int} {j : Nat} (h : j < l.length) : (l ++ [x]).getD j [] = l.getD j [] := by
  rw [List.getD_eq_getElem?_getD, List.getD_eq_getElem?_getD, List.getElem?_append_left h]
theorem getD_snoc {l : List (List Int)} {x : List Int} {n : Nat} (h : n = l.length) : (l ++ [x]).getD n [] = x := by
  rw [h, List.getD_eq_getElem?_getD, List.getElem?_append_right (Nat.le_refl _)]
  simp
/-- Two ways that lead to one digest, with no clash beside one another, come from one leaf. -/
theorem climb_sound (leaf leaf' : List Int) (hb : By leaf) (hb' : By leaf') : ∀ (n i : Nat) (path path' : List ByteArray), (climbR leaf n i path).2 = true → (climbR leaf' n i path').2 = true →
    digM (lastL (climbR leaf n i path).1) = digM (lastL (climbR leaf' n i path').1) →
    (∀ j, j < (climbR leaf n i path).1.length → clashM (strOfNums ((climbR leaf n i path).1.getD j [])) (strOfNums ((climbR leaf' n i path').1.getD j [])) 32 = false) → leaf = leaf' := by
  intro n
  induction n using Nat.strongRecOn with
  | _ n ih =>
    intro i path path' h1 h2 hd hc
    have d1 := (climbR_depth leaf n i path).2 h1
    have d2 := (climbR_depth leaf' n i path').2 h2
    rw [climbR] at h1 hd hc
    rw [climbR.eq_def leaf' n i path'] at h2 hd hc
    by_cases h : 2 ≤ n
    · have hh := halfM_lt h
      rw [dif_pos h] at h1 h2
      rw [dif_pos h, dif_pos h] at hd
      by_cases z1 : path.length = 0
      · rw [if_pos z1] at h1; cases h1
      by_cases z2 : path'.length = 0
      · rw [if_pos z2] at h2; cases h2
      rw [if_neg z1] at h1
      rw [if_neg z2] at h2
      rw [if_neg z1, if_neg z2] at hd
      by_cases hi : i < halfM n
      · rw [if_pos hi] at h1 h2
        rw [if_pos hi, if_pos hi] at hd
        have q1 := (climbR_depth leaf (halfM n) i (path.take (path.length - 1))).2
        have q2 := (climbR_depth leaf' (halfM n) i (path'.take (path'.length - 1))).2
        have I := ih (halfM n) (by omega) i (path.take (path.length - 1)) (path'.take (path'.length - 1))
        by_cases r1 : (climbR leaf (halfM n) i (path.take (path.length - 1))).2 = true
        · by_cases r2 : (climbR leaf' (halfM n) i (path'.take (path'.length - 1))).2 = true
          · rw [if_pos r1, if_pos r2, lastL_snoc, lastL_snoc] at hd
            have hc' : ∀ j, j < (climbR leaf (halfM n) i (path.take (path.length - 1))).1.length + 1 → clashM (strOfNums (((climbR leaf (halfM n) i (path.take (path.length - 1))).1 ++ [nodeB (digM (lastL (climbR leaf (halfM n) i (path.take (path.length - 1))).1)) (lastS path)]).getD j [])) (strOfNums (((climbR leaf' (halfM n) i (path'.take (path'.length - 1))).1 ++ [nodeB (digM (lastL (climbR leaf' (halfM n) i (path'.take (path'.length - 1))).1)) (lastS path')]).getD j [])) 32 = false := by
              intro j hj
              have := hc j (by rw [dif_pos h, if_neg z1, if_pos hi, if_pos r1]; simpa using hj)
              rw [dif_pos h, if_neg z1, if_pos hi, if_pos r1, dif_pos h, if_neg z2, if_pos hi, if_pos r2] at this
              exact this
            have q1 := q1 r1
            have q2 := q2 r2
            have hx := hc' (climbR leaf (halfM n) i (path.take (path.length - 1))).1.length (by omega)
            rw [getD_snoc rfl, getD_snoc (by omega)] at hx
            have he := noClash (nodeB_by _ _) (nodeB_by _ _) hx hd
            refine I r1 r2 (nodeB_left (digM_size _) (digM_size _) he) (fun j hj => ?_)
            have := hc' j (by omega)
            rw [getD_snoc_lt hj, getD_snoc_lt (by omega)] at this
            exact this
          · rw [if_neg r2] at h2; cases h2
        · rw [if_neg r1] at h1; cases h1
      · rw [if_neg hi] at h1 h2
        rw [if_neg hi, if_neg hi] at hd
        have q1 := (climbR_depth leaf (n - halfM n) (i - halfM n) (path.take (path.length - 1))).2
        have q2 := (climbR_depth leaf' (n - halfM n) (i - halfM n) (path'.take (path'.length - 1))).2
        have I := ih (n - halfM n) (by omega) (i - halfM n) (path.take (path.length - 1)) (path'.take (path'.length - 1))
        by_cases r1 : (climbR leaf (n - halfM n) (i - halfM n) (path.take (path.length - 1))).2 = true
        · by_cases r2 : (climbR leaf' (n - halfM n) (i - halfM n) (path'.take (path'.length - 1))).2 = true
          · rw [if_pos r1, if_pos r2, lastL_snoc, lastL_snoc] at hd
            have hc' : ∀ j, j < (climbR leaf (n - halfM n) (i - halfM n) (path.take (path.length - 1))).1.length + 1 → clashM (strOfNums (((climbR leaf (n - halfM n) (i - halfM n) (path.take (path.length - 1))).1 ++ [nodeB (lastS path) (digM (lastL (climbR leaf (n - halfM n) (i - halfM n) (path.take (path.length - 1))).1))]).getD j [])) (strOfNums (((climbR leaf' (n - halfM n) (i - halfM n) (path'.take (path'.length - 1))).1 ++ [nodeB (lastS path') (digM (lastL (climbR leaf' (n - halfM n) (i - halfM n) (path'.take (path'.length - 1))).1))]).getD j [])) 32 = false := by
              intro j hj
              have := hc j (by rw [dif_pos h, if_neg z1, if_neg hi, if_pos r1]; simpa using hj)
              rw [dif_pos h, if_neg z1, if_neg hi, if_pos r1, dif_pos h, if_neg z2, if_neg hi, if_pos r2] at this
              exact this
            have q1 := q1 r1
            have q2 := q2 r2
            have hx := hc' (climbR leaf (n - halfM n) (i - halfM n) (path.take (path.length - 1))).1.length (by omega)
            rw [getD_snoc rfl, getD_snoc (by omega)] at hx
            have he := noClash (nodeB_by _ _) (nodeB_by _ _) hx hd
            refine I r1 r2 (nodeB_right (digM_size _) (digM_size _) he) (fun j hj => ?_)
            have := hc' j (by omega)
            rw [getD_snoc_lt hj, getD_snoc_lt (by omega)] at this
            exact this
          · rw [if_neg r2] at h2; cases h2
        · rw [if_neg r1] at h1; cases h1
    · rw [dif_neg h, dif_neg h] at hd
      have hx := hc 0 (by rw [dif_neg h]; simp)
      rw [dif_neg h, dif_neg h] at hx
      exact noClash hb hb' hx hd
theorem rootOfM_60 {l : List S26} (h : l.length ≤ 60) : rootOfM l = digM (topB l.length (innerM l)) := by
  unfold rootOfM rootM
  rw [if_neg (by omega)]
/-- What is taken to be at a place of a root is there, or PartAt finds a clash. -/
theorem part_sound {l : List S26} (hf : FewP l) {a b : ByteArray} (ha : a.size ≤ 10000000) (hb : b.size ≤ 10000000) {i n : Int} {path : List ByteArray} (hk : pokM l l.length 0 = true)
    (hc : checkM (leafB a b) i n path (rootOfM l) = true) : (partM l a b i n path).2.2 = true ∨ (((l.length : Int) = n ∧ 0 ≤ i ∧ i < n) ∧ (rd_T26 l i).f0 = a ∧ (rd_T26 l i).f1 = b) := by
  cases hp : (partM l a b i n path).2.2 with
  | true => exact .inl rfl
  | false =>
    right
    have h60 := pokM_le60 _ _ hk
    unfold checkM at hc
    by_cases h : (1 ≤ n ∧ n ≤ 60) ∧ 0 ≤ i ∧ i < n
    · rw [if_pos h] at hc
      unfold partM at hp
      rw [if_pos ⟨h, hk⟩] at hp
      obtain ⟨m, rfl⟩ : ∃ m : Nat, n = (m : Int) := ⟨n.toNat, by omega⟩
      obtain ⟨j, rfl⟩ : ∃ j : Nat, i = (j : Int) := ⟨i.toNat, by omega⟩
      rw [Int.toNat_natCast, Int.toNat_natCast] at hc hp
      by_cases hr : (wayR (leafB a b) m j path).2 = true
      · rw [if_pos hr, rootOfM_60 h60] at hc
        rw [if_pos hr] at hp
        have hd : digM (lastL (wayR (leafB a b) m j path).1) = digM (topB l.length (innerM l)) := toList_inj (by simpa using hc)
        have hC : (climbR (leafB a b) m j path).2 = true := by
          unfold wayR at hr
          by_cases c : (climbR (leafB a b) m j path).2 = true
          · exact c
          · rw [if_neg c] at hr; cases hr
        have hw : (wayR (leafB a b) m j path).1 = (climbR (leafB a b) m j path).1 ++ [topB m (digM (lastL (climbR (leafB a b) m j path).1))] := by
          unfold wayR
          rw [if_pos hC]
        rw [hw, lastL_snoc] at hd
        have tl : (tailM l (wayR (leafB a b) m j path).1).2.2 = false → topB m (digM (lastL (climbR (leafB a b) m j path).1)) = topB l.length (innerM l) := by
          intro ht
          unfold tailM at ht
          rw [hw, lastL_snoc] at ht
          exact noClash (topB_by _ _) (topB_by _ _) ht hd
        by_cases hm : (l.length : Int) = (m : Int)
        · rw [if_pos hm] at hp
          have hml : l.length = m := by omega
          obtain ⟨s1, s2⟩ := scanT_no _ _ hp
          have hin := (topB_inj (by omega) (by omega) (tl s2)).2
          have hpd := pathM_depth _ l j hml
          have ho2 := (climbR_depth (leafB (rd_T26 l (j : Int)).f0 (rd_T26 l (j : Int)).f1) m j (pathM l j)).1.2 hpd
          have hol := (climbR_depth (leafB (rd_T26 l (j : Int)).f0 (rd_T26 l (j : Int)).f1) m j (pathM l j)).2 ho2
          have hcl := (climbR_depth (leafB a b) m j path).2 hC
          have how : (ownWay l (j : Int) m).1 = (climbR (leafB (rd_T26 l (j : Int)).f0 (rd_T26 l (j : Int)).f1) m j (pathM l j)).1 ++ [topB m (digM (lastL (climbR (leafB (rd_T26 l (j : Int)).f0 (rd_T26 l (j : Int)).f1) m j (pathM l j)).1))] := by
            unfold ownWay wayR
            rw [Int.toNat_natCast, if_pos ho2]
          have hfi := hf.rd (i := (j : Int)) (by omega) (by omega)
          have hown := climb_own m l j hml (by omega)
          have hleaf := climb_sound (leafB a b) (leafB (rd_T26 l (j : Int)).f0 (rd_T26 l (j : Int)).f1) (leafB_by _ _) (leafB_by _ _) m j path (pathM l j) hC ho2 (by rw [hin, hown]) (fun q hq => by
            have := s1 q (by omega) (by rw [hw, List.length_append]; omega)
            rw [hw, how, getD_snoc_lt hq, getD_snoc_lt (by omega)] at this
            exact this)
          obtain ⟨e1, e2⟩ := leafB_inj (by omega) (by omega) (by omega) (by omega) hleaf
          exact ⟨⟨hm, by omega, by omega⟩, e1.symm, e2.symm⟩
        · rw [if_neg hm] at hp
          have := (topB_inj (by omega) (by omega) (tl hp)).1
          omega
      · rw [if_neg hr] at hc; cases hc
    · rw [if_neg h] at hc; cases hc
end Go.Proofs.Ythkaifddpjjmaaa.P
