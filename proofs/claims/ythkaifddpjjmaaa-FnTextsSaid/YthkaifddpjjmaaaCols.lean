/- Rows of pairs, of orders, of texts: what the program's functions over them answer, and the reference's. No condition but bounds on lengths. -/
import Derived.Test.YthkaifddpjjmaaaLists
import Derived.Test.YthkaifddpjjmaaaBytes
import Derived.Test.YthkaifddpjjmaaaRead
import Derived.Test.YthkaifddpjjmaaaHash
import Derived.Test.YthkaifddpjjmaaaKeys
import Derived.Test.YthkaifddpjjmaaaPx3
import Derived.Test.YthkaifddpjjmaaaPx5
namespace Go.Proofs.Ythkaifddpjjmaaa.P
open Go.RowKit Go.Proofs.YthkaifddpjjmaaaW.PrintWords Go.Proofs.YthkaifddpjjmaaaW.PrintLast Go.Proofs.YthkaifddpjjmaaaW.PrintMore
set_option linter.unusedVariables false
set_option linter.unusedSimpArgs false
theorem filt_step {α : Type} (p : α → Bool) (l : List α) (i : Nat) (h : i < l.length) : (l.take (i + 1)).filter p = if p l[i] then (l.take i).filter p ++ [l[i]] else (l.take i).filter p := by
  rw [← List.take_append_getElem h, List.filter_append]
  by_cases c : p l[i] = true
  · simp [c]
  · simp [c]
theorem filt_le {α : Type} (p : α → Bool) (l : List α) (i : Nat) : ((l.take i).filter p).length ≤ l.length :=
  Nat.le_trans (List.length_filter_le _ _) (by rw [List.length_take]; omega)
/-- Bytes with the texts appended. -/
def ptsM (b : List Int) (l : List ByteArray) : List Int := l.foldl putTextM b
def putTextsM (b : List Int) (l : List ByteArray) : List Int := ptsM (putNumM b l.length) l
def sumSz (l : List ByteArray) : Nat := (l.map ByteArray.size).sum
theorem ptsM_len (l : List ByteArray) : ∀ b : List Int, (ptsM b l).length ≤ b.length + 5 * l.length + sumSz l := by
  induction l with
  | nil => intro b; simp [ptsM, sumSz]
  | cons s l ih =>
    intro b
    have h1 := ih (putTextM b s)
    have h2 := putTextM_len b s
    simp only [ptsM, sumSz, List.foldl_cons, List.map_cons, List.sum_cons, List.length_cons] at h1 ⊢
    omega
theorem putTextsM_len (b : List Int) (l : List ByteArray) : (putTextsM b l).length ≤ b.length + 5 + 5 * l.length + sumSz l := by
  have h1 := ptsM_len l (putNumM b l.length)
  have h2 := putNumM_len b l.length
  unfold putTextsM
  omega
theorem sumSz_drop (l : List ByteArray) (i : Nat) (h : i < l.length) : sumSz (l.drop i) = l[i].size + sumSz (l.drop (i + 1)) := by
  unfold sumSz
  rw [List.drop_eq_getElem_cons h, List.map_cons, List.sum_cons]
theorem impl_putTexts_loop (l : List ByteArray) (hn : l.length ≤ 10000000) (hs : sumSz l ≤ 10000000) : ∀ (d i : Nat) (b : List Int), l.length - i = d → i ≤ l.length → b.length + 5 * d + sumSz (l.drop i) ≤ 10000000000 → sumSz (l.drop i) ≤ 10000000 →
    Ev (fun k => impl_putTexts.l0 k b l (l.length : Int) (i : Int)) (ptsM b (l.drop i)) := by
  intro d
  induction d with
  | zero =>
    intro i b hd hi _ _
    obtain rfl : i = l.length := by omega
    refine Ev.up (Ev.now _) (fun k _ => ?_)
    simp only [impl_putTexts.l0]
    rw [if_neg (by omega), List.drop_length]
    rfl
  | succ d ih =>
    intro i b hd hi hb hz
    have hil : i < l.length := by omega
    rw [sumSz_drop l i hil] at hb hz
    have hl := putTextM_len b l[i]
    obtain ⟨K1, e1⟩ := Ev.get (impl_putText_ev b l[i] (by omega) (by omega))
    obtain ⟨K2, e2⟩ := Ev.get (ih (i + 1) (putTextM b l[i]) (by omega) (by omega) (by omega) (by omega))
    refine ⟨K1 + K2 + 1, fun k hk => ?_⟩
    obtain ⟨k, rfl⟩ : ∃ j, k = j + 1 := ⟨k - 1, by omega⟩
    have hx := e2 k (by omega)
    show impl_putTexts.l0 (k + 1) _ _ _ _ = _
    simp only [impl_putTexts.l0]
    rw [if_pos (by omega), if_pos (by omega), if_pos (by omega), rdOf_nat l i hil, e1 _ (by omega), Option.bind_some, w64 (by omega) (by omega), List.drop_eq_getElem_cons hil]
    exact hx
theorem impl_putTexts_ev (b : List Int) (l : List ByteArray) (hb : b.length ≤ 10000000) (hn : l.length ≤ 10000000) (hs : sumSz l ≤ 10000000) : Ev (fun k => impl_putTexts.f k b l) (putTextsM b l) := by
  have h2 := putNumM_len b l.length
  obtain ⟨K1, e1⟩ := Ev.get (impl_putNum_ev b l.length (by omega))
  obtain ⟨K2, e2⟩ := Ev.get (impl_putTexts_loop l hn hs _ 0 (putNumM b l.length) rfl (by omega) (by rw [List.drop_zero]; omega) (by rw [List.drop_zero]; omega))
  refine ⟨K1 + K2, fun k hk => ?_⟩
  show impl_putTexts.f k b l = _
  unfold impl_putTexts.f
  rw [e1 _ (by omega), Option.bind_some]
  exact e2 _ (by omega)
theorem impl_PutTexts_ev (b : List Int) (l : List ByteArray) (hb : b.length ≤ 10000000) (hn : l.length ≤ 10000000) (hs : sumSz l ≤ 10000000) : Ev (fun k => impl_PutTexts.f k b l) (putTextsM b l) := by
  obtain ⟨K, hK⟩ := Ev.get (impl_putTexts_ev b l hb hn hs)
  refine ⟨K, fun k hk => ?_⟩
  show impl_PutTexts.f k b l = _
  unfold impl_PutTexts.f
  rw [clone_ev b (by omega), Option.bind_some, hK k hk, Option.bind_some]
/-- What a reader of texts answers: texts left, place, texts so far. -/
def gtsM (b : List Int) : Nat → Int → List ByteArray → List ByteArray × Int × Bool
  | 0, p, acc => (acc, p, true)
  | n + 1, p, acc => if (getTextM b p).2.2 = true then gtsM b n (getTextM b p).2.1 (acc ++ [(getTextM b p).1]) else ([], 0, false)
def getTextsM (b : List Int) (a : Int) : List ByteArray × Int × Bool :=
  if (getNumM b a).2.2 = true then (if (getNumM b a).1 > 200 then ([], 0, false) else gtsM b (getNumM b a).1.toNat (getNumM b a).2.1 []) else ([], 0, false)
theorem getTextM_at {b : List Int} (hb : By b) (hl : b.length ≤ 140737488355328) {a : Int} : -9223372036854775808 ≤ (getTextM b a).2.1 ∧ (getTextM b a).2.1 ≤ 9223372036854775807 := by
  unfold getTextM
  by_cases c : (getNumM b a).2.2 = true
  · have h := getNumM_ok hb c
    rw [if_pos c]
    split
    · simp only; omega
    · simp only; omega
  · rw [if_neg c]; simp only; omega
theorem impl_GetTexts_loop (b : List Int) (hb : By b) (hl : b.length ≤ 140737488355328) (n : Nat) (hn : n ≤ 200) (x : Int) : ∀ (d i : Nat) (p : Int) (acc : List ByteArray), n - i = d → i ≤ n → -9223372036854775808 ≤ p ∧ p ≤ 9223372036854775807 → acc.length + d ≤ 1000 →
    Ev (fun k => impl_GetTexts.l0 k b p acc (n : Int) (i : Int)) (gtsM b d p acc) := by
  intro d
  induction d with
  | zero =>
    intro i p acc hd hi hp ha
    obtain rfl : i = n := by omega
    refine Ev.up (Ev.now _) (fun k _ => ?_)
    simp only [impl_GetTexts.l0]
    rw [if_neg (by omega)]
    rfl
  | succ d ih =>
    intro i p acc hd hi hp ha
    obtain ⟨K1, e1⟩ := Ev.get (impl_GetText_ev b hb hl p hp)
    rw [gtsM]
    by_cases c : (getTextM b p).2.2 = true
    · rw [if_pos c]
      obtain ⟨K2, e2⟩ := Ev.get (ih (i + 1) (getTextM b p).2.1 (acc ++ [(getTextM b p).1]) (by omega) (by omega) (getTextM_at hb hl) (by rw [List.length_append, List.length_singleton]; omega))
      refine ⟨K1 + K2 + 1, fun k hk => ?_⟩
      obtain ⟨k, rfl⟩ : ∃ j, k = j + 1 := ⟨k - 1, by omega⟩
      have hx := e2 k (by omega)
      show impl_GetTexts.l0 (k + 1) _ _ _ _ _ = _
      simp only [impl_GetTexts.l0]
      rw [if_pos (by omega), e1 _ (by omega), Option.bind_some, if_pos c, if_pos (by omega), w64 (by omega) (by omega)]
      exact hx
    · rw [if_neg c]
      refine ⟨K1 + 1, fun k hk => ?_⟩
      obtain ⟨k, rfl⟩ : ∃ j, k = j + 1 := ⟨k - 1, by omega⟩
      show impl_GetTexts.l0 (k + 1) _ _ _ _ _ = _
      simp only [impl_GetTexts.l0]
      rw [if_pos (by omega), e1 _ (by omega), Option.bind_some, if_neg c]
theorem impl_GetTexts_ev (b : List Int) (hb : By b) (hl : b.length ≤ 140737488355328) (a : Int) (ha : -9223372036854775808 ≤ a ∧ a ≤ 9223372036854775807) : Ev (fun k => impl_GetTexts.f k b a) (getTextsM b a) := by
  obtain ⟨K1, e1⟩ := Ev.get (impl_GetNum_ev b hb hl a ha)
  unfold getTextsM
  by_cases c : (getNumM b a).2.2 = true
  · have h := getNumM_ok hb c
    rw [if_pos c]
    by_cases c2 : (getNumM b a).1 > 200
    · rw [if_pos c2]
      refine ⟨K1 + 1, fun k hk => ?_⟩
      obtain ⟨k, rfl⟩ : ∃ j, k = j + 1 := ⟨k - 1, by omega⟩
      show impl_GetTexts.f (k + 1) b a = _
      unfold impl_GetTexts.f
      rw [e1 _ (by omega), Option.bind_some, if_pos c]
      simp only [impl_GetTexts.j0]
      rw [if_pos (by simpa using c2)]
    · rw [if_neg c2]
      have hv : ((getNumM b a).1.toNat : Int) = (getNumM b a).1 := by omega
      obtain ⟨K2, e2⟩ := Ev.get (impl_GetTexts_loop b hb hl (getNumM b a).1.toNat (by omega) 0 _ 0 (getNumM b a).2.1 [] rfl (by omega) (by omega) (by simp; omega))
      refine ⟨K1 + K2 + 1, fun k hk => ?_⟩
      obtain ⟨k, rfl⟩ : ∃ j, k = j + 1 := ⟨k - 1, by omega⟩
      have hx := e2 k (by omega)
      rw [hv] at hx
      show impl_GetTexts.f (k + 1) b a = _
      unfold impl_GetTexts.f
      rw [e1 _ (by omega), Option.bind_some, if_pos c]
      simp only [impl_GetTexts.j0]
      rw [if_neg (by simpa using c2)]
      exact hx
  · rw [if_neg c]
    refine ⟨K1 + 1, fun k hk => ?_⟩
    obtain ⟨k, rfl⟩ : ∃ j, k = j + 1 := ⟨k - 1, by omega⟩
    show impl_GetTexts.f (k + 1) b a = _
    unfold impl_GetTexts.f
    rw [e1 _ (by omega), Option.bind_some, if_neg c]
    simp only [impl_GetTexts.j0]
    rw [if_pos trivial]
theorem gtsM_len (b : List Int) : ∀ (n : Nat) (p : Int) (acc : List ByteArray), (gtsM b n p acc).1.length ≤ acc.length + n := by
  intro n
  induction n with
  | zero => intro p acc; simp [gtsM]
  | succ n ih =>
    intro p acc
    rw [gtsM]
    split
    · have := ih (getTextM b p).2.1 (acc ++ [(getTextM b p).1])
      rw [List.length_append, List.length_singleton] at this
      omega
    · simp
theorem getTextsM_len (b : List Int) (a : Int) : (getTextsM b a).1.length ≤ 200 := by
  unfold getTextsM
  split
  · split
    · simp
    · have := gtsM_len b (getNumM b a).1.toNat (getNumM b a).2.1 []
      simp only [List.length_nil] at this
      omega
  · simp
end Go.Proofs.Ythkaifddpjjmaaa.P
