/- Rows of pairs, of orders, of texts: what the program's functions over them answer, and the reference's. No condition but bounds on lengths. -/
import Derived.Test.YthkaifddpjjmaaaLists
import Derived.Test.YthkaifddpjjmaaaBytes
import Derived.Test.YthkaifddpjjmaaaRead
import Derived.Test.YthkaifddpjjmaaaHash
import Derived.Test.YthkaifddpjjmaaaKeys
import Derived.Test.YthkaifddpjjmaaaPx0
namespace Go.Proofs.Ythkaifddpjjmaaa.P
open Go.RowKit Go.Proofs.YthkaifddpjjmaaaW.PrintWords Go.Proofs.YthkaifddpjjmaaaW.PrintLast Go.Proofs.YthkaifddpjjmaaaW.PrintMore
set_option linter.unusedVariables false
set_option linter.unusedSimpArgs false
theorem filt_step {α : Type} (p : α → Bool) (l : List α) (i : Nat) (h : i < l.length) : (l.take (i + 1)).filter p = if p l[i] then (l.take i).filter p ++ [l[i]] else (l.take i).filter p := by
  rw [← List.take_append_getElem h, List.filter_append]
  by_cases c : p l[i] = true
  · simp [c]
  · simp [c]
theorem filt_le {α : Type} (p : α → Bool) (l : List α) (i : Nat) : ((l.take i).filter p).length ≤ l.length :=
  Nat.le_trans (List.length_filter_le _ _) (by rw [List.length_take]; omega)
/-- Whether a pair's key lies between two. -/
def btwB (a b : ByteArray) (p : S26) : Bool := !(Op.bytesLess p.f0.toList a.toList) && (decide (b.toList = []) || Op.bytesLess p.f0.toList b.toList)
/-- Bytes with the texts appended. -/
def ptsM (b : List Int) (l : List ByteArray) : List Int := l.foldl putTextM b
def putTextsM (b : List Int) (l : List ByteArray) : List Int := ptsM (putNumM b l.length) l
def sumSz (l : List ByteArray) : Nat := (l.map ByteArray.size).sum
theorem ptsM_len (l : List ByteArray) : ∀ b : List Int, (ptsM b l).length ≤ b.length + 5 * l.length + sumSz l := by
  induction l with
  | nil => intro b; simp [ptsM, sumSz]
  | cons s l ih =>
    intro b
    have h1 := ih (putTextM b s)
    have h2 := putTextM_len b s
    simp only [ptsM, sumSz, List.foldl_cons, List.map_cons, List.sum_cons, List.length_cons] at h1 ⊢
    omega
theorem putTextsM_len (b : List Int) (l : List ByteArray) : (putTextsM b l).length ≤ b.length + 5 + 5 * l.length + sumSz l := by
  have h1 := ptsM_len l (putNumM b l.length)
  have h2 := putNumM_len b l.length
  unfold putTextsM
  omega
theorem sumSz_drop (l : List ByteArray) (i : Nat) (h : i < l.length) : sumSz (l.drop i) = l[i].size + sumSz (l.drop (i + 1)) := by
  unfold sumSz
  rw [List.drop_eq_getElem_cons h, List.map_cons, List.sum_cons]
/-- What a reader of texts answers: texts left, place, texts so far. -/
def gtsM (b : List Int) : Nat → Int → List ByteArray → List ByteArray × Int × Bool
  | 0, p, acc => (acc, p, true)
  | n + 1, p, acc => if (getTextM b p).2.2 = true then gtsM b n (getTextM b p).2.1 (acc ++ [(getTextM b p).1]) else ([], 0, false)
def getTextsM (b : List Int) (a : Int) : List ByteArray × Int × Bool :=
  if (getNumM b a).2.2 = true then (if (getNumM b a).1 > 200 then ([], 0, false) else gtsM b (getNumM b a).1.toNat (getNumM b a).2.1 []) else ([], 0, false)
theorem getTextM_at {b : List Int} (hb : By b) (hl : b.length ≤ 140737488355328) {a : Int} : -9223372036854775808 ≤ (getTextM b a).2.1 ∧ (getTextM b a).2.1 ≤ 9223372036854775807 := by
  unfold getTextM
  by_cases c : (getNumM b a).2.2 = true
  · have h := getNumM_ok hb c
    rw [if_pos c]
    split
    · simp only; omega
    · simp only; omega
  · rw [if_neg c]; simp only; omega
theorem gtsM_len (b : List Int) : ∀ (n : Nat) (p : Int) (acc : List ByteArray), (gtsM b n p acc).1.length ≤ acc.length + n := by
  intro n
  induction n with
  | zero => intro p acc; simp [gtsM]
  | succ n ih =>
    intro p acc
    rw [gtsM]
    split
    · have := ih (getTextM b p).2.1 (acc ++ [(getTextM b p).1])
      rw [List.length_append, List.length_singleton] at this
      omega
    · simp
theorem getTextsM_len (b : List Int) (a : Int) : (getTextsM b a).1.length ≤ 200 := by
  unfold getTextsM
  split
  · split
    · simp
    · have := gtsM_len b (getNumM b a).1.toNat (getNumM b a).2.1 []
      simp only [List.length_nil] at this
      omega
  · simp
end Go.Proofs.Ythkaifddpjjmaaa.P
