/- Drawn pairs are right: keys that are words, in order. No condition but bounds on lengths. -/
import Derived.Test.YthkaifddpjjmaaaSound
import Derived.Test.YthkaifddpjjmaaaDrawPairs
import Derived.Test.YthkaifddpjjmaaaSorted
import Derived.Test.YthkaifddpjjmaaaPx0
import Derived.Test.YthkaifddpjjmaaaPx2
namespace Go.Proofs.Ythkaifddpjjmaaa.P
open Go.RowKit Go.Proofs.YthkaifddpjjmaaaW.PrintWords Go.Proofs.YthkaifddpjjmaaaW.PrintLast Go.Proofs.YthkaifddpjjmaaaW.PrintMore
set_option linter.unusedVariables false
set_option linter.unusedSimpArgs false
/-- A key that is right, and comes ahead of "zz". -/
def KG (s : ByteArray) : Prop := keyOkM s = true ∧ Op.bytesLess s.toList (⟨#[122, 122]⟩ : ByteArray).toList = true
def PG (p : S26) : Prop := KG p.f0 ∧ p.f1.size ≤ 20
/-- Keys that rise, all right. -/
def GP (l : List S26) : Prop := l.Pairwise (fun x y => Op.bytesLess x.f0.toList y.f0.toList = true) ∧ ∀ p ∈ l, PG p
theorem GP.nil : GP [] := ⟨List.Pairwise.nil, fun _ h => absurd h List.not_mem_nil⟩
theorem rdP_get (l : List S26) {i : Nat} (h : i < l.length) : rd_T26 l (i : Int) = l[i] := by
  unfold rd_T26
  rw [List.getD_eq_getElem?_getD, Int.toNat_natCast, List.getElem?_eq_getElem h]
  rfl
theorem GP.less {l : List S26} (h : GP l) {i j : Nat} (hij : i < j) (hj : j < l.length) : Op.bytesLess (rd_T26 l (i : Int)).f0.toList (rd_T26 l (j : Int)).f0.toList = true := by
  rw [rdP_get l (by omega), rdP_get l hj]
  exact List.pairwise_iff_getElem.1 h.1 i j (by omega) hj hij
theorem GP.pok {l : List S26} (h : GP l) (h60 : l.length ≤ 60) : pokM l l.length 0 = true := by
  have key : ∀ d i : Nat, i + d = l.length → pokM l d i = true := by
    intro d
    induction d with
    | zero => intro i hi; unfold pokM; simp; omega
    | succ d ih =>
      intro i hi
      have hm : PG (rd_T26 l (i : Int)) := h.2 _ (by rw [rdP_get l (by omega)]; exact List.getElem_mem _)
      unfold pokM
      rw [if_pos (by unfold pairOkM; rw [hm.1.1]; simpa using hm.2)]
      by_cases h0 : (i : Int) > 0
      · rw [if_pos h0, show (i : Int) - 1 = ((i - 1 : Nat) : Int) by omega, if_pos (h.less (by omega) (by omega))]
        exact ih (i + 1) (by omega)
      · rw [if_neg h0]
        exact ih (i + 1) (by omega)
  exact key _ 0 (by omega)
theorem GP.set {l : List S26} (h : GP l) {i : Nat} (hi : i < l.length) {v : ByteArray} (hv : v.size ≤ 20) : GP (l.set i ⟨(rd_T26 l (i : Int)).f0, v⟩) := by
  have hk : ∀ j (hj : j < (l.set i ⟨(rd_T26 l (i : Int)).f0, v⟩).length), ((l.set i ⟨(rd_T26 l (i : Int)).f0, v⟩)[j]).f0 = (l[j]'(by simpa using hj)).f0 := by
    intro j hj
    rw [List.getElem_set]
    by_cases e : i = j
    · rw [if_pos e]
      subst e
      have := rdP_get l hi
      show (rd_T26 l (i : Int)).f0 = _
      exact congrArg S26.f0 this
    · rw [if_neg e]
  refine ⟨List.pairwise_iff_getElem.2 (fun a b ha hb hab => ?_), fun p hp => ?_⟩
  · rw [hk a ha, hk b hb]
    exact List.pairwise_iff_getElem.1 h.1 a b (by simpa using ha) (by simpa using hb) hab
  · rcases List.mem_or_eq_of_mem_set hp with h1 | h1
    · exact h.2 p h1
    · rw [h1]
      exact ⟨(h.2 _ (by rw [rdP_get l hi]; exact List.getElem_mem _ : rd_T26 l (i : Int) ∈ l)).1, hv⟩
theorem GP.ins {l : List S26} (h : GP l) {i : Nat} (hi : i ≤ l.length) {a b : ByteArray} (ha : KG a) (hb : b.size ≤ 20)
    (h1 : ∀ j : Nat, j < i → Op.bytesLess (rd_T26 l (j : Int)).f0.toList a.toList = true) (h2 : i < l.length → Op.bytesLess a.toList (rd_T26 l (i : Int)).f0.toList = true) :
    GP (l.take i ++ [(⟨a, b⟩ : S26)] ++ l.drop i) := by
  have t1 : ∀ p ∈ l.take i, Op.bytesLess p.f0.toList a.toList = true := by
    intro p hp
    obtain ⟨j, hj, rfl⟩ := List.getElem_of_mem hp
    have hj' : j < i := by rw [List.length_take] at hj; omega
    have := h1 j hj'
    rw [rdP_get l (by omega)] at this
    rw [List.getElem_take]
    exact this
  have t2 : ∀ p ∈ l.drop i, Op.bytesLess a.toList p.f0.toList = true := by
    intro p hp
    obtain ⟨j, hj, rfl⟩ := List.getElem_of_mem hp
    rw [List.length_drop] at hj
    have hil : i < l.length := by omega
    have h3 := h2 hil
    rw [List.getElem_drop]
    by_cases e : j = 0
    · subst e
      rw [rdP_get l hil] at h3
      exact h3
    · have h4 := h.less (i := i) (j := i + j) (by omega) (by omega)
      have h5 := less_trans h3 h4
      rw [rdP_get l (by omega)] at h5
      exact h5
  refine ⟨?_, fun p hp => ?_⟩
  · rw [List.append_assoc, List.pairwise_append]
    refine ⟨h.1.sublist (List.take_sublist _ _), ?_, fun x hx y hy => ?_⟩
    · rw [List.singleton_append, List.pairwise_cons]
      exact ⟨t2, h.1.sublist (List.drop_sublist _ _)⟩
    · rcases List.mem_append.1 hy with h3 | h3
      · rw [List.mem_singleton.1 h3]; exact t1 x hx
      · exact less_trans (t1 x hx) (t2 y h3)
  · rcases List.mem_append.1 hp with h3 | h3
    · rcases List.mem_append.1 h3 with h4 | h4
      · exact h.2 p (List.mem_of_mem_take h4)
      · rw [List.mem_singleton.1 h4]; exact ⟨ha, hb⟩
    · exact h.2 p (List.mem_of_mem_drop h3)
theorem PutKey_l1_good {l : List S26} (hg : GP l) (hl : l.length ≤ 1000) {a b : ByteArray} (ha : KG a) (hb : b.size ≤ 20)
    (hne : ∀ j : Nat, j < l.length → ¬ (rd_T26 l (j : Int)).f0.toList = a.toList) : ∀ (k i : Nat) (r : List S26), i ≤ l.length →
    (∀ j : Nat, j < i → Op.bytesLess (rd_T26 l (j : Int)).f0.toList a.toList = true) → spec_PutKey.l1 k l a b (i : Int) = some r → GP r := by
  intro k
  induction k with
  | zero => intro i r _ _ h; simp [spec_PutKey.l1] at h
  | succ k ih =>
    intro i r hi hinv h
    simp only [spec_PutKey.l1] at h
    by_cases c : i < l.length
    · rw [if_pos (by omega), if_pos (by omega)] at h
      by_cases c2 : Op.bytesLess a.toList (rd_T26 l (i : Int)).f0.toList = true
      · rw [if_pos c2, Option.bind_some, if_pos (by omega), Option.bind_some, if_pos (by simp only [List.length_nil, List.length_take]; omega), Option.bind_some, if_pos (by simp; omega), Option.bind_some, Option.bind_some, if_pos (by simp; omega), Int.toNat_natCast, List.nil_append] at h
        cases h
        exact hg.ins (by omega) ha hb hinv (fun _ => c2)
      · rw [if_neg c2, w64 (by omega) (by omega)] at h
        refine ih (i + 1) r (by omega) (fun j hj => ?_) h
        by_cases e : j = i
        · subst e
          rcases less_or c2 with h3 | h3
          · exact h3
          · exact absurd h3 (hne j c)
        · exact hinv j (by omega)
    · have e : i = l.length := by omega
      rw [if_neg (by omega), Option.bind_some, if_pos (by omega), if_pos (by omega), Option.bind_some, if_pos (by simp only [List.length_nil, List.length_take]; omega), Option.bind_some, if_pos (by simp; omega), Option.bind_some, Option.bind_some, if_pos (by simp; omega), Int.toNat_natCast, List.nil_append] at h
      cases h
      exact hg.ins (by omega) ha hb hinv (fun h => absurd h c)
theorem PutKey_l0_good {l : List S26} (hg : GP l) (hl : l.length ≤ 1000) {a b : ByteArray} (ha : KG a) (hb : b.size ≤ 20) : ∀ (k i : Nat) (r : List S26), i ≤ l.length →
    (∀ j : Nat, j < i → ¬ (rd_T26 l (j : Int)).f0.toList = a.toList) → spec_PutKey.l0 k l a b l (i : Int) = some r → GP r := by
  intro k
  induction k with
  | zero => intro i r _ _ h; simp [spec_PutKey.l0] at h
  | succ k ih =>
    intro i r hi hinv h
    simp only [spec_PutKey.l0] at h
    by_cases c : i < l.length
    · rw [if_pos (by omega), if_pos (by omega)] at h
      by_cases c2 : (rd_T26 l (i : Int)).f0.toList = a.toList
      · rw [if_pos c2, Int.toNat_natCast] at h
        cases h
        exact hg.set c hb
      · rw [if_neg c2, w64 (by omega) (by omega)] at h
        refine ih (i + 1) r (by omega) (fun j hj => ?_) h
        by_cases e : j = i
        · subst e; exact c2
        · exact hinv j (by omega)
    · rw [if_neg (by omega)] at h
      exact PutKey_l1_good hg hl ha hb (fun j hj => hinv j (by omega)) k 0 r (by omega) (fun j hj => by omega) h
theorem PutKey_good {l : List S26} (hg : GP l) (hl : l.length ≤ 1000) {a b : ByteArray} (ha : KG a) (hb : b.size ≤ 20) {k : Nat} {r : List S26} (h : spec_PutKey.f k l a b = some r) : GP r := by
  unfold spec_PutKey.f at h
  rw [Option.bind_some, if_pos (by simp only [List.length_nil]; omega), List.nil_append] at h
  exact PutKey_l0_good hg hl ha hb k 0 r (by omega) (fun j hj => by omega) h
theorem kg_all : ∀ v ∈ ([(⟨#[97]⟩ : ByteArray), (⟨#[98]⟩ : ByteArray), (⟨#[99]⟩ : ByteArray), (⟨#[107, 49]⟩ : ByteArray), (⟨#[107, 50]⟩ : ByteArray), (⟨#[109]⟩ : ByteArray), (⟨#[122]⟩ : ByteArray)] : List ByteArray), KG v := by
  intro v hv
  simp only [List.mem_cons, List.not_mem_nil, or_false] at hv
  unfold KG
  rw [ByteArray.toList_eq, ByteArray.toList_eq]
  rcases hv with rfl | rfl | rfl | rfl | rfl | rfl | rfl <;> exact ⟨by decide, by decide⟩
theorem l3Key_kg {s : List Int} {p : Int} (h : St s p) (x : Int) : ∃ v q y, spec_l3Key.f s p x = some (v, q, y) ∧ St s q ∧ v.size ≤ 20 ∧ KG v := by
  unfold spec_l3Key.f
  obtain ⟨v, q, y, e, hq, hm⟩ := l1Str_some h x ([(⟨#[97]⟩ : ByteArray), (⟨#[98]⟩ : ByteArray), (⟨#[99]⟩ : ByteArray), (⟨#[107, 49]⟩ : ByteArray), (⟨#[107, 50]⟩ : ByteArray), (⟨#[109]⟩ : ByteArray), (⟨#[122]⟩ : ByteArray)] : List ByteArray) (by decide)
  rw [e, Option.bind_some]
  have hk := kg_all v hm
  have hs : v.size ≤ 20 := by
    have := hk.1
    unfold keyOkM at this
    simp only [Bool.and_eq_true, decide_eq_true_eq] at this
    omega
  exact ⟨_, _, _, rfl, hq, hs, hk⟩
theorem l3Draw_gloop (s : List Int) : ∀ (n : Nat) (acc : List S26) (p x : Int), acc.length + n ≤ 100 → n ≤ 100 → PR acc → GP acc → St s p →
    ∃ r q y, Ev (fun k => spec_l3Draw.l0 k acc (n : Int) s p x) (r, q, y) ∧ St s q ∧ PR r ∧ GP r ∧ r.length ≤ acc.length + n := by
  intro n
  induction n with
  | zero =>
    intro acc p x hl hn hp hg hs
    refine ⟨acc, p, x, Ev.up (Ev.now _) (fun k _ => ?_), hs, hp, hg, by omega⟩
    simp only [spec_l3Draw.l0]
    rw [if_neg (by omega)]
  | succ n ih =>
    intro acc p x hl hn hp hg hs
    obtain ⟨a, q, y, e, h1, ha, hka⟩ := l3Key_kg hs x
    obtain ⟨b, q2, y2, e2, h2, hb⟩ := l3Val_some h1 y
    obtain ⟨r, e3, hr, hrl⟩ := PutKey_some acc (by omega) hp a b (by omega) (by omega)
    obtain ⟨K3, e3⟩ := Ev.get e3
    have hgr : GP r := PutKey_good hg (by omega) hka hb (e3 K3 (Nat.le_refl _))
    obtain ⟨r2, q3, y3, e4, h4, hr4, hg4, hrl4⟩ := ih r q2 y2 (by omega) (by omega) hr hgr h2
    obtain ⟨K4, e4⟩ := Ev.get e4
    refine ⟨r2, q3, y3, ⟨K3 + K4 + 1, fun k hk => ?_⟩, h4, hr4, hg4, by omega⟩
    obtain ⟨k, rfl⟩ : ∃ j, k = j + 1 := ⟨k - 1, by omega⟩
    have hx := e4 k (by omega)
    show spec_l3Draw.l0 (k + 1) _ _ _ _ _ = _
    simp only [spec_l3Draw.l0]
    rw [if_pos (by omega), e, Option.bind_some, e2, Option.bind_some, e3 _ (by omega), Option.bind_some, w64 (by omega) (by omega), show ((n + 1 : Nat) : Int) - 1 = (n : Int) by omega]
    exact hx
theorem l3Draw_good {s : List Int} {p : Int} (h : St s p) (x : Int) : ∃ r q y, Ev (fun k => spec_l3Draw.f k s p x) (r, q, y) ∧ St s q ∧ PR r ∧ GP r ∧ r.length ≤ 8 := by
  obtain ⟨v, q, y, e, hq, h0, h1⟩ := l1Below_some h x 8 (by decide)
  obtain ⟨n, rfl⟩ := Int.eq_ofNat_of_zero_le h0
  obtain ⟨r, q2, y2, e2, h2, hr, hg, hl⟩ := l3Draw_gloop s n [] q y (by simp; omega) (by omega) PR.nil GP.nil hq
  refine ⟨r, q2, y2, e2.congr (fun k => ?_), h2, hr, hg, by simp only [List.length_nil] at hl; omega⟩
  unfold spec_l3Draw.f
  rw [e, Option.bind_some]
end Go.Proofs.Ythkaifddpjjmaaa.P
