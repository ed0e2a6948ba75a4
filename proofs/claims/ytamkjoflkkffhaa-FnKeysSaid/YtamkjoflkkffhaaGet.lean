/- What is got of pairs that were put, taken away or joined. No condition but bounds on lengths. -/
import Derived.Test.YtamkjoflkkffhaaPut
import Derived.Test.YtamkjoflkkffhaaSorted
import Derived.Test.YtamkjoflkkffhaaPx0
import Derived.Test.YtamkjoflkkffhaaPx11
import Derived.Test.YtamkjoflkkffhaaPx12
import Derived.Test.YtamkjoflkkffhaaPx17
import Derived.Test.YtamkjoflkkffhaaPx7
namespace Go.Proofs.Ytamkjoflkkffhaa.P
open Go.RowKit Go.Proofs.YtamkjoflkkffhaaW.PrintWords Go.Proofs.YtamkjoflkkffhaaW.PrintLast Go.Proofs.YtamkjoflkkffhaaW.PrintMore
set_option linter.unusedVariables false
set_option linter.unusedSimpArgs false
theorem get_toList_inj {a b : ByteArray} (h : a.toList = b.toList) : a = b := by
  rw [ByteArray.toList_eq, ByteArray.toList_eq] at h
  cases a with
  | mk x =>
    cases b with
    | mk y =>
      have : x = y := by simpa using h
      rw [this]
/-- The value of the first pair of a key. -/
def getO (l : List S53) (key : List UInt8) : Option ByteArray := (l.find? (fun p => p.f0.toList == key)).map (·.f1)
def ansO : Option ByteArray → ByteArray × Bool
  | none => (⟨#[]⟩, false)
  | some v => (v, true)
theorem getO_at (key : List UInt8) : ∀ (l : List S53) (i : Int), 0 ≤ i → (pairIdx l key i = -1 ∧ getO l key = none) ∨ ∃ k : Nat, ∃ h : k < l.length, pairIdx l key i = i + k ∧ getO l key = some l[k].f1 ∧ l[k].f0.toList = key ∧ (∀ p ∈ l.take k, p.f0.toList ≠ key)
  | [], i, hi => .inl ⟨rfl, rfl⟩
  | p :: l, i, hi => by
    by_cases hp : p.f0.toList = key
    · exact .inr ⟨0, by simp, by unfold pairIdx; rw [if_pos hp]; simp, by simp [getO, hp], hp, by simp⟩
    · have e1 : pairIdx (p :: l) key i = pairIdx l key (i + 1) := by rw [pairIdx, if_neg hp]
      have e2 : getO (p :: l) key = getO l key := by simp [getO, hp]
      rcases getO_at key l (i + 1) (by omega) with ⟨h1, h2⟩ | ⟨k, hk, h1, h2, h3, h4⟩
      · exact .inl ⟨by rw [e1, h1], by rw [e2, h2]⟩
      · refine .inr ⟨k + 1, by simpa using hk, by rw [e1, h1]; simp; omega, by rw [e2, h2]; rfl, h3, fun q hq => ?_⟩
        rw [List.take_succ_cons] at hq
        rcases List.mem_cons.1 hq with rfl | h5
        · exact hp
        · exact h4 q h5
theorem GetKey_get (l : List S53) (a : ByteArray) : impl_GetKey.f l a = some (ansO (getO l a.toList)) := by
  rw [impl_GetKey_eq]
  congr 1
  rcases getO_at a.toList l 0 (Int.le_refl _) with ⟨h1, h2⟩ | ⟨k, hk, h1, h2, _⟩
  · rw [h1, h2]; rfl
  · rw [h1, h2]
    unfold atM
    rw [if_neg (by omega), show (0 : Int) + (k : Int) = (k : Int) by omega, rd_53_nat l k hk]
    rfl
theorem getO_app (l m : List S53) (key : List UInt8) : getO (l ++ m) key = (getO l key).or (getO m key) := by
  unfold getO
  rw [List.find?_append]
  cases l.find? (fun p => p.f0.toList == key) <;> simp
theorem getO_none {l : List S53} {key : List UInt8} (h : ∀ p ∈ l, p.f0.toList ≠ key) : getO l key = none := by
  unfold getO
  rw [List.find?_eq_none.2 (fun p hp => by simpa using h p hp)]
  rfl
theorem getO_cons (p : S53) (l : List S53) (key : List UInt8) : getO (p :: l) key = if p.f0.toList = key then some p.f1 else getO l key := by
  unfold getO
  by_cases c : p.f0.toList = key
  · rw [if_pos c]; simp [c]
  · rw [if_neg c]; simp [c]
theorem getO_mem {l : List S53} {p : S53} (h : p ∈ l) : ∃ v, getO l p.f0.toList = some v := by
  induction l with
  | nil => simp at h
  | cons q l ih =>
    rw [getO_cons]
    by_cases c : q.f0.toList = p.f0.toList
    · rw [if_pos c]; exact ⟨_, rfl⟩
    · rw [if_neg c]
      rcases List.mem_cons.1 h with rfl | h1
      · exact absurd rfl c
      · exact ih h1
/-- A pair put: what stands ahead of it and behind it is as it was. -/
theorem pk_split (l : List S53) (a b : ByteArray) : ∃ (l1 l2 : List S53) (k : ByteArray), pk_M l a b = l1 ++ ⟨k, b⟩ :: l2 ∧ k.toList = a.toList ∧ (∀ p ∈ l1, p.f0.toList ≠ a.toList) ∧
    ((l = l1 ++ l2 ∧ (∀ p ∈ l, p.f0.toList ≠ a.toList) ∧ l1 = l.take (pk_at a.toList l) ∧ l2 = l.drop (pk_at a.toList l) ∧ k = a) ∨ ∃ old, l = l1 ++ ⟨k, old⟩ :: l2) := by
  rcases getO_at a.toList l 0 (Int.le_refl _) with ⟨h1, h2⟩ | ⟨k, hk, h1, h2, h3, h4⟩
  · have hno : ∀ p ∈ l, p.f0.toList ≠ a.toList := fun p hp e => by
      obtain ⟨v, hv⟩ := getO_mem hp
      rw [e, h2] at hv
      cases hv
    refine ⟨l.take (pk_at a.toList l), l.drop (pk_at a.toList l), a, ?_, rfl, fun p hp => hno p (List.mem_of_mem_take hp), .inl ⟨(List.take_append_drop _ _).symm, hno, rfl, rfl, rfl⟩⟩
    unfold pk_M
    rw [h1, if_pos (by omega), List.append_assoc]
    rfl
  · refine ⟨l.take k, l.drop (k + 1), l[k].f0, ?_, h3, h4, .inr ⟨l[k].f1, ?_⟩⟩
    · unfold pk_M
      rw [h1, if_neg (by omega), show (0 : Int) + (k : Int) = (k : Int) by omega, Int.toNat_natCast, rd_53_nat l k hk, List.set_eq_take_append_cons_drop, if_pos hk]
    · have e : l.drop k = l[k] :: l.drop (k + 1) := List.drop_eq_getElem_cons hk
      have e2 : (⟨l[k].f0, l[k].f1⟩ : S53) = l[k] := rfl
      rw [e2, ← e, List.take_append_drop]
theorem put_get (l : List S53) (a b : ByteArray) : getO (pk_M l a b) a.toList = some b := by
  obtain ⟨l1, l2, k, h1, h2, h3, _⟩ := pk_split l a b
  rw [h1, getO_app, getO_none h3, getO_cons, if_pos h2]
  rfl
theorem put_other (l : List S53) (a b : ByteArray) {c : List UInt8} (hc : c ≠ a.toList) : getO (pk_M l a b) c = getO l c := by
  obtain ⟨l1, l2, k, h1, h2, h3, h4 | ⟨old, h4⟩⟩ := pk_split l a b
  · rw [h1, h4.1, getO_app, getO_app, getO_cons, if_neg (by rw [h2]; exact Ne.symm hc)]
  · rw [h1, h4, getO_app, getO_app, getO_cons, getO_cons, if_neg (by simp only; rw [h2]; exact Ne.symm hc), if_neg (by simp only; rw [h2]; exact Ne.symm hc)]
theorem put_same (l : List S53) (a b : ByteArray) (h : getO l a.toList = some b) : pk_M l a b = l := by
  obtain ⟨l1, l2, k, h1, h2, h3, h4 | ⟨old, h4⟩⟩ := pk_split l a b
  · rw [getO_none h4.2.1] at h; cases h
  · rw [h4, getO_app, getO_none h3, getO_cons, if_pos h2] at h
    have : old = b := by simpa using h
    rw [h1, h4, this]
theorem del_none (l : List S53) (a : ByteArray) : getO (l.filter (dk_q a)) a.toList = none := by
  apply getO_none
  intro p hp
  have := (List.mem_filter.1 hp).2
  simpa [dk_q] using this
theorem del_other (l : List S53) (a : ByteArray) {c : List UInt8} (hc : c ≠ a.toList) : getO (l.filter (dk_q a)) c = getO l c := by
  induction l with
  | nil => rfl
  | cons p l ih =>
    by_cases hp : p.f0.toList = a.toList
    · have hq : dk_q a p = false := by simp [dk_q, hp]
      rw [List.filter_cons, if_neg (by rw [hq]; simp), ih, getO_cons, if_neg (by rw [hp]; exact Ne.symm hc)]
    · have hq : dk_q a p = true := by simp [dk_q, hp]
      rw [List.filter_cons, if_pos hq, getO_cons, getO_cons, ih]
/-! ### rows that keep the rules -/
def OKP (l : List S53) : Prop := l.Pairwise (fun x y => Op.bytesLess x.f0.toList y.f0.toList = true) ∧ ∀ p ∈ l, keyOkM p.f0 = true ∧ p.f1.size ≤ 20
theorem OKP.pok {l : List S53} (h : OKP l) (h60 : l.length ≤ 60) : pokM l l.length 0 = true := by
  have key : ∀ d i : Nat, i + d = l.length → pokM l d i = true := by
    intro d
    induction d with
    | zero => intro i hi; unfold pokM; simp; omega
    | succ d ih =>
      intro i hi
      have hil : i < l.length := by omega
      have hm := h.2 l[i] (List.getElem_mem hil)
      unfold pokM
      rw [rd_53_nat l i hil, if_pos (by unfold pairOkM; rw [hm.1]; simpa using hm.2)]
      by_cases h0 : (i : Int) > 0
      · rw [if_pos h0, show (i : Int) - 1 = ((i - 1 : Nat) : Int) by omega, rd_53_nat l (i - 1) (by omega), if_pos (List.pairwise_iff_getElem.1 h.1 (i - 1) i (by omega) (by omega) (by omega))]
        exact ih (i + 1) (by omega)
      · rw [if_neg h0]
        exact ih (i + 1) (by omega)
  exact key _ 0 (by omega)
theorem OKP.of {l : List S53} (h : pokM l l.length 0 = true) : OKP l := by
  refine ⟨pokM_pairwise l h, fun p hp => ?_⟩
  obtain ⟨i, hi, rfl⟩ := List.getElem_of_mem hp
  have := (pokM_all l l.length 0 h i (by omega) (by omega)).1
  rw [rd_53_nat l i hi] at this
  unfold pairOkM at this
  simpa using this
theorem OKP.filter {l : List S53} (h : OKP l) (q : S53 → Bool) : OKP (l.filter q) := ⟨h.1.sublist List.filter_sublist, fun p hp => h.2 p (List.mem_filter.1 hp).1⟩
theorem OKP.apart {l : List S53} (h : OKP l) : l.Pairwise (fun x y => x.f0.toList ≠ y.f0.toList) := h.1.imp (fun {x y} hxy e => by rw [e, less_irrefl] at hxy; cases hxy)
/-- Ahead of its place all keys are below or alike, at it and behind it all are above. -/
theorem pk_at_spec (key : List UInt8) : ∀ l : List S53, (∀ p ∈ l.take (pk_at key l), ¬ Op.bytesLess key p.f0.toList = true) ∧ ∀ h : pk_at key l < l.length, Op.bytesLess key l[pk_at key l].f0.toList = true
  | [] => ⟨by simp, fun h => by simp at h⟩
  | p :: l => by
    obtain ⟨h1, h2⟩ := pk_at_spec key l
    by_cases c : Op.bytesLess key p.f0.toList = true
    · have e : pk_at key (p :: l) = 0 := by rw [pk_at, if_pos c]
      rw [e]
      refine ⟨by simp, fun h => ?_⟩
      simp only [e, List.getElem_cons_zero]
      exact c
    · have e : pk_at key (p :: l) = pk_at key l + 1 := by rw [pk_at, if_neg c]
      refine ⟨fun q hq => ?_, fun h => ?_⟩
      · rw [e, List.take_succ_cons] at hq
        rcases List.mem_cons.1 hq with rfl | h3
        · exact c
        · exact h1 q h3
      · simp only [e, List.getElem_cons_succ]
        exact h2 (by rw [e] at h; simpa using h)
theorem OKP.put {l : List S53} (h : OKP l) {a b : ByteArray} (ha : keyOkM a = true) (hb : b.size ≤ 20) : OKP (pk_M l a b) := by
  obtain ⟨l1, l2, k, h1, h2, h3, ⟨h4, h5, h6, h7, h8⟩ | ⟨old, h4⟩⟩ := pk_split l a b
  · obtain ⟨s1, s2⟩ := pk_at_spec a.toList l
    rw [h1, h8]
    have hlt1 : ∀ p ∈ l1, Op.bytesLess p.f0.toList a.toList = true := fun p hp => by
      rw [h6] at hp
      rcases less_or (s1 p hp) with h9 | h9
      · exact h9
      · exact absurd h9 (h5 p (List.mem_of_mem_take hp))
    have hlt2 : ∀ p ∈ l2, Op.bytesLess a.toList p.f0.toList = true := fun p hp => by
      rw [h7] at hp
      have hlen : pk_at a.toList l < l.length := by
        rcases Nat.lt_or_ge (pk_at a.toList l) l.length with c | c
        · exact c
        · rw [List.drop_eq_nil_of_le c] at hp; simp at hp
      have h9 := s2 hlen
      have e : l.drop (pk_at a.toList l) = l[pk_at a.toList l] :: l.drop (pk_at a.toList l + 1) := List.drop_eq_getElem_cons hlen
      have hw : (l.drop (pk_at a.toList l)).Pairwise (fun x y => Op.bytesLess x.f0.toList y.f0.toList = true) := h.1.sublist (List.drop_sublist _ _)
      rw [e] at hp hw
      rw [List.pairwise_cons] at hw
      rcases List.mem_cons.1 hp with rfl | h10
      · exact h9
      · exact less_trans h9 (hw.1 p h10)
    have hw := h.1
    rw [h4, List.pairwise_append] at hw
    refine ⟨?_, fun p hp => ?_⟩
    · rw [List.pairwise_append]
      refine ⟨hw.1, ?_, fun x hx y hy => ?_⟩
      · rw [List.pairwise_cons]
        exact ⟨hlt2, hw.2.1⟩
      · rcases List.mem_cons.1 hy with rfl | h9
        · exact hlt1 x hx
        · exact hw.2.2 x hx y h9
    · rcases List.mem_append.1 hp with h9 | h9
      · exact h.2 p (by rw [h4]; exact List.mem_append_left _ h9)
      · rcases List.mem_cons.1 h9 with rfl | h10
        · exact ⟨ha, hb⟩
        · exact h.2 p (by rw [h4]; exact List.mem_append_right _ h10)
  · have hw := h.1
    rw [h4, List.pairwise_append, List.pairwise_cons] at hw
    rw [h1]
    refine ⟨?_, fun p hp => ?_⟩
    · rw [List.pairwise_append, List.pairwise_cons]
      refine ⟨hw.1, ⟨hw.2.1.1, hw.2.1.2⟩, fun x hx y hy => ?_⟩
      rcases List.mem_cons.1 hy with rfl | h9
      · exact hw.2.2 x hx ⟨k, old⟩ List.mem_cons_self
      · exact hw.2.2 x hx y (List.mem_cons_of_mem _ h9)
    · rcases List.mem_append.1 hp with h9 | h9
      · exact h.2 p (by rw [h4]; exact List.mem_append_left _ h9)
      · rcases List.mem_cons.1 h9 with rfl | h10
        · exact ⟨(h.2 ⟨k, old⟩ (by rw [h4]; exact List.mem_append_right _ List.mem_cons_self)).1, hb⟩
        · exact h.2 p (by rw [h4]; exact List.mem_append_right _ (List.mem_cons_of_mem _ h10))
end Go.Proofs.Ytamkjoflkkffhaa.P
