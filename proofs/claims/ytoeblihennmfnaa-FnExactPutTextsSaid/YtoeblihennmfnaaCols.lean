/- Rows of pairs, of orders, of texts: what the program's functions over them answer, and the reference's. No condition but bounds on lengths. -/
import Derived.Test.YtoeblihennmfnaaLists
import Derived.Test.YtoeblihennmfnaaBytes
import Derived.Test.YtoeblihennmfnaaRead
import Derived.Test.YtoeblihennmfnaaHash
import Derived.Test.YtoeblihennmfnaaKeys
import Derived.Test.YtoeblihennmfnaaPx0
import Derived.Test.YtoeblihennmfnaaPx16
import Derived.Test.YtoeblihennmfnaaPx2
import Derived.Test.YtoeblihennmfnaaPx3
import Derived.Test.YtoeblihennmfnaaPx33
import Derived.Test.YtoeblihennmfnaaPx34
import Derived.Test.YtoeblihennmfnaaPx39
import Derived.Test.YtoeblihennmfnaaPx42
namespace Go.Proofs.Ytoeblihennmfnaa.P
open Go.RowKit Go.Proofs.YtoeblihennmfnaaW.PrintWords Go.Proofs.YtoeblihennmfnaaW.PrintLast Go.Proofs.YtoeblihennmfnaaW.PrintMore
set_option linter.unusedVariables false
set_option linter.unusedSimpArgs false
theorem filt_step {α : Type} (p : α → Bool) (l : List α) (i : Nat) (h : i < l.length) : (l.take (i + 1)).filter p = if p l[i] then (l.take i).filter p ++ [l[i]] else (l.take i).filter p := by
  rw [← List.take_append_getElem h, List.filter_append]
  by_cases c : p l[i] = true
  · simp [c]
  · simp [c]
theorem filt_le {α : Type} (p : α → Bool) (l : List α) (i : Nat) : ((l.take i).filter p).length ≤ l.length :=
  Nat.le_trans (List.length_filter_le _ _) (by rw [List.length_take]; omega)
/-- Whether an order is one shard's. -/
def opsP (a n : Int) (o : S100) : Bool := decide (shardM o.f1 n = a)
theorem spec_OpsFor_loop (l : List S100) (hn : l.length ≤ 1000000000000) (hs : ∀ o ∈ l, o.f1.size ≤ 140737488355328) (a n : Int) : ∀ d i : Nat, l.length - i = d → i ≤ l.length →
    Ev (fun k => spec_OpsFor.l0 k l a n ((l.take i).filter (opsP a n)) (i : Int)) (l.filter (opsP a n)) := by
  intro d
  induction d with
  | zero =>
    intro i hd hi
    obtain rfl : i = l.length := by omega
    refine Ev.up (Ev.now (l.filter (opsP a n))) (fun k _ => ?_)
    simp only [spec_OpsFor.l0]
    rw [if_neg (by omega), List.take_length]
  | succ d ih =>
    intro i hd hi
    have hil : i < l.length := by omega
    obtain ⟨K1, e1⟩ := Ev.get (spec_ShardOf_ev l[i].f1 (hs _ (List.getElem_mem hil)) n)
    obtain ⟨K2, e2⟩ := Ev.get (ih (i + 1) (by omega) (by omega))
    refine ⟨K1 + K2 + 1, fun k hk => ?_⟩
    obtain ⟨k, rfl⟩ : ∃ j, k = j + 1 := ⟨k - 1, by omega⟩
    have hx := e2 k (by omega)
    rw [filt_step (opsP a n) l i hil] at hx
    have hle := filt_le (opsP a n) l i
    show spec_OpsFor.l0 (k + 1) _ _ _ _ _ = _
    simp only [spec_OpsFor.l0]
    rw [if_pos (by omega), if_pos (by omega), rd_100_nat l i hil, e1 _ (by omega), Option.bind_some]
    by_cases c : shardM l[i].f1 n = a
    · rw [if_pos c, if_pos (by omega), w64 (by omega) (by omega)]
      rw [if_pos (by simp [opsP, c])] at hx
      exact hx
    · rw [if_neg c, w64 (by omega) (by omega)]
      rw [if_neg (by simp [opsP, c])] at hx
      exact hx
theorem spec_OpsFor_ev (l : List S100) (hn : l.length ≤ 1000000000000) (hs : ∀ o ∈ l, o.f1.size ≤ 140737488355328) (a n : Int) : Ev (fun k => spec_OpsFor.f k l a n) (l.filter (opsP a n)) :=
  spec_OpsFor_loop l hn hs a n _ 0 rfl (by omega)
theorem impl_OpsFor_loop (l : List S100) (hn : l.length ≤ 1000000000000) (hs : ∀ o ∈ l, o.f1.size ≤ 140737488355328) (a n : Int) : ∀ d i : Nat, l.length - i = d → i ≤ l.length →
    Ev (fun k => impl_OpsFor.l0 k a n ((l.take i).filter (opsP a n)) l (l.length : Int) (i : Int)) (l.filter (opsP a n)) := by
  intro d
  induction d with
  | zero =>
    intro i hd hi
    obtain rfl : i = l.length := by omega
    refine Ev.up (Ev.now (l.filter (opsP a n))) (fun k _ => ?_)
    simp only [impl_OpsFor.l0]
    rw [if_neg (by omega), List.take_length]
  | succ d ih =>
    intro i hd hi
    have hil : i < l.length := by omega
    obtain ⟨K1, e1⟩ := Ev.get (impl_ShardOf_ev l[i].f1 (hs _ (List.getElem_mem hil)) n)
    obtain ⟨K2, e2⟩ := Ev.get (ih (i + 1) (by omega) (by omega))
    refine ⟨K1 + K2 + 1, fun k hk => ?_⟩
    obtain ⟨k, rfl⟩ : ∃ j, k = j + 1 := ⟨k - 1, by omega⟩
    have hx := e2 k (by omega)
    rw [filt_step (opsP a n) l i hil] at hx
    have hle := filt_le (opsP a n) l i
    show impl_OpsFor.l0 (k + 1) _ _ _ _ _ _ = _
    simp only [impl_OpsFor.l0]
    rw [if_pos (by omega), if_pos (by omega), if_pos (by omega), rd_100_nat l i hil, e1 _ (by omega), Option.bind_some]
    by_cases c : shardM l[i].f1 n = a
    · rw [if_pos c, if_pos (by omega), w64 (by omega) (by omega)]
      rw [if_pos (by simp [opsP, c])] at hx
      exact hx
    · rw [if_neg c, w64 (by omega) (by omega)]
      rw [if_neg (by simp [opsP, c])] at hx
      exact hx
theorem impl_OpsFor_ev (l : List S100) (hn : l.length ≤ 1000000000000) (hs : ∀ o ∈ l, o.f1.size ≤ 140737488355328) (a n : Int) : Ev (fun k => impl_OpsFor.f k l a n) (l.filter (opsP a n)) :=
  impl_OpsFor_loop l hn hs a n _ 0 rfl (by omega)
/-- Whether a pair's key lies between two. -/
def btwB (a b : ByteArray) (p : S57) : Bool := !(Op.bytesLess p.f0.toList a.toList) && (decide (b.toList = []) || Op.bytesLess p.f0.toList b.toList)
theorem spec_l3In_eq (p : S57) (a b : ByteArray) : spec_l3In.f p.f0 a b = some (btwB a b p) := by
  unfold spec_l3In.f btwB
  by_cases c : Op.bytesLess p.f0.toList a.toList = true
  · simp [c]
  · by_cases c2 : b.toList = []
    · simp [c, c2]
    · simp [c, c2]
theorem spec_Between_loop (l : List S57) (hn : l.length ≤ 1000000000000) (a b : ByteArray) : ∀ d i : Nat, l.length - i = d → i ≤ l.length →
    Ev (fun k => spec_Between.l0 k l a b ((l.take i).filter (btwB a b)) (i : Int)) (l.filter (btwB a b)) := by
  intro d
  induction d with
  | zero =>
    intro i hd hi
    obtain rfl : i = l.length := by omega
    refine Ev.up (Ev.now (l.filter (btwB a b))) (fun k _ => ?_)
    simp only [spec_Between.l0]
    rw [if_neg (by omega), List.take_length]
  | succ d ih =>
    intro i hd hi
    have hil : i < l.length := by omega
    refine Ev.up (ih (i + 1) (by omega) (by omega)) (fun k hx => ?_)
    rw [filt_step (btwB a b) l i hil] at hx
    have hle := filt_le (btwB a b) l i
    simp only [spec_Between.l0]
    rw [if_pos (by omega), if_pos (by omega), rd_57_nat l i hil, spec_l3In_eq, Option.bind_some]
    by_cases c : btwB a b l[i] = true
    · rw [if_pos c, if_pos (by omega), w64 (by omega) (by omega)]
      rw [if_pos c] at hx
      exact hx
    · rw [if_neg c, w64 (by omega) (by omega)]
      rw [if_neg c] at hx
      exact hx
theorem spec_Between_ev (l : List S57) (hn : l.length ≤ 1000000000000) (a b : ByteArray) : Ev (fun k => spec_Between.f k l a b) (l.filter (btwB a b)) :=
  spec_Between_loop l hn a b _ 0 rfl (by omega)
theorem impl_isBetween_eq (p : S57) (a b : ByteArray) : impl_isBetween.f p.f0 a b = some (btwB a b p) := by
  unfold impl_isBetween.f btwB
  by_cases c : Op.bytesLess p.f0.toList a.toList = true
  · simp [c]
  · by_cases c2 : b.toList = []
    · simp [c, c2]
    · simp [c, c2]
theorem impl_Between_loop (l : List S57) (hn : l.length ≤ 1000000000000) (a b : ByteArray) : ∀ d i : Nat, l.length - i = d → i ≤ l.length →
    Ev (fun k => impl_Between.l0 k a b ((l.take i).filter (btwB a b)) l (l.length : Int) (i : Int)) (l.filter (btwB a b)) := by
  intro d
  induction d with
  | zero =>
    intro i hd hi
    obtain rfl : i = l.length := by omega
    refine Ev.up (Ev.now (l.filter (btwB a b))) (fun k _ => ?_)
    simp only [impl_Between.l0]
    rw [if_neg (by omega), List.take_length]
  | succ d ih =>
    intro i hd hi
    have hil : i < l.length := by omega
    refine Ev.up (ih (i + 1) (by omega) (by omega)) (fun k hx => ?_)
    rw [filt_step (btwB a b) l i hil] at hx
    have hle := filt_le (btwB a b) l i
    simp only [impl_Between.l0]
    rw [if_pos (by omega), if_pos (by omega), if_pos (by omega), rd_57_nat l i hil, impl_isBetween_eq, Option.bind_some]
    by_cases c : btwB a b l[i] = true
    · rw [if_pos c, if_pos (by omega), w64 (by omega) (by omega)]
      rw [if_pos c] at hx
      exact hx
    · rw [if_neg c, w64 (by omega) (by omega)]
      rw [if_neg c] at hx
      exact hx
theorem impl_Between_ev (l : List S57) (hn : l.length ≤ 1000000000000) (a b : ByteArray) : Ev (fun k => impl_Between.f k l a b) (l.filter (btwB a b)) :=
  impl_Between_loop l hn a b _ 0 rfl (by omega)
/-- The value at a place, with true; without one: no text and false. -/
def atM (l : List S57) (i : Int) : ByteArray × Bool := if i < 0 then (⟨#[]⟩, false) else ((rd_T57 l i).f1, true)
theorem pairIdx_lt (l : List S57) (key : List UInt8) : ∀ i : Int, 0 ≤ i → pairIdx l key i < i + l.length ∨ pairIdx l key i < 0 := by
  induction l with
  | nil => intro i hi; right; simp [pairIdx]
  | cons p l ih =>
    intro i hi
    rw [pairIdx]
    split
    · left; simp only [List.length_cons]; omega
    · rcases ih (i + 1) (by omega) with h | h
      · left; simp only [List.length_cons]; omega
      · right; exact h
theorem pairIdx_end (l : List S57) (key : List UInt8) : pairIdx (l.drop l.length) key l.length = -1 := by
  rw [List.drop_length]; rfl
theorem spec_GetKey_loop (l : List S57) (hn : l.length ≤ 1000000000000) (a : ByteArray) : ∀ d i : Nat, l.length - i = d → i ≤ l.length →
    Ev (fun k => spec_GetKey.l0 k l a (i : Int)) (atM l (pairIdx (l.drop i) a.toList i)) := by
  intro d
  induction d with
  | zero =>
    intro i hd hi
    obtain rfl : i = l.length := by omega
    refine Ev.up (Ev.now _) (fun k _ => ?_)
    simp only [spec_GetKey.l0]
    rw [if_neg (by omega), pairIdx_end]
    rfl
  | succ d ih =>
    intro i hd hi
    have hil : i < l.length := by omega
    rw [pairIdx_step l a.toList i hil]
    by_cases c : (rd_T57 l (i : Int)).f0.toList = a.toList
    · rw [if_pos c]
      refine Ev.up (Ev.now _) (fun k _ => ?_)
      simp only [spec_GetKey.l0]
      rw [if_pos (by omega), if_pos (by omega), if_pos c, atM, if_neg (by omega)]
    · rw [if_neg c]
      refine Ev.up (ih (i + 1) (by omega) (by omega)) (fun k hx => ?_)
      simp only [spec_GetKey.l0]
      rw [if_pos (by omega), if_pos (by omega), if_neg c, w64 (by omega) (by omega)]
      exact hx
theorem spec_GetKey_ev (l : List S57) (hn : l.length ≤ 1000000000000) (a : ByteArray) : Ev (fun k => spec_GetKey.f k l a) (atM l (pairIdx l a.toList 0)) :=
  spec_GetKey_loop l hn a _ 0 rfl (by omega)
theorem impl_GetKey_eq (l : List S57) (a : ByteArray) : impl_GetKey.f l a = some (atM l (pairIdx l a.toList 0)) := by
  unfold impl_GetKey.f impl_pairAt.f atM
  rw [Option.bind_some]
  have h := pairIdx_lt l a.toList 0 (by omega)
  by_cases c : pairIdx l a.toList 0 < 0
  · rw [if_pos c, if_pos c]
  · rw [if_neg c, if_neg c, if_pos (by omega), if_pos (by omega)]
/-- Bytes with the texts appended. -/
def ptsM (b : List Int) (l : List ByteArray) : List Int := l.foldl putTextM b
def putTextsM (b : List Int) (l : List ByteArray) : List Int := ptsM (putNumM b l.length) l
def sumSz (l : List ByteArray) : Nat := (l.map ByteArray.size).sum
theorem ptsM_len (l : List ByteArray) : ∀ b : List Int, (ptsM b l).length ≤ b.length + 5 * l.length + sumSz l := by
  induction l with
  | nil => intro b; simp [ptsM, sumSz]
  | cons s l ih =>
    intro b
    have h1 := ih (putTextM b s)
    have h2 := putTextM_len b s
    simp only [ptsM, sumSz, List.foldl_cons, List.map_cons, List.sum_cons, List.length_cons] at h1 ⊢
    omega
theorem putTextsM_len (b : List Int) (l : List ByteArray) : (putTextsM b l).length ≤ b.length + 5 + 5 * l.length + sumSz l := by
  have h1 := ptsM_len l (putNumM b l.length)
  have h2 := putNumM_len b l.length
  unfold putTextsM
  omega
theorem sumSz_drop (l : List ByteArray) (i : Nat) (h : i < l.length) : sumSz (l.drop i) = l[i].size + sumSz (l.drop (i + 1)) := by
  unfold sumSz
  rw [List.drop_eq_getElem_cons h, List.map_cons, List.sum_cons]
theorem spec_PutTexts_loop (l : List ByteArray) (hn : l.length ≤ 10000000) (hs : sumSz l ≤ 10000000) : ∀ (d i : Nat) (b : List Int), l.length - i = d → i ≤ l.length → b.length + 5 * d + sumSz (l.drop i) ≤ 10000000000 → sumSz (l.drop i) ≤ 10000000 →
    Ev (fun k => spec_PutTexts.l0 k l b (i : Int)) (ptsM b (l.drop i)) := by
  intro d
  induction d with
  | zero =>
    intro i b hd hi _ _
    obtain rfl : i = l.length := by omega
    refine Ev.up (Ev.now _) (fun k _ => ?_)
    simp only [spec_PutTexts.l0]
    rw [if_neg (by omega), List.drop_length]
    rfl
  | succ d ih =>
    intro i b hd hi hb hz
    have hil : i < l.length := by omega
    rw [sumSz_drop l i hil] at hb hz
    have hl := putTextM_len b l[i]
    obtain ⟨K1, e1⟩ := Ev.get (spec_PutText_ev b l[i] (by omega) (by omega))
    obtain ⟨K2, e2⟩ := Ev.get (ih (i + 1) (putTextM b l[i]) (by omega) (by omega) (by omega) (by omega))
    refine ⟨K1 + K2 + 1, fun k hk => ?_⟩
    obtain ⟨k, rfl⟩ : ∃ j, k = j + 1 := ⟨k - 1, by omega⟩
    have hx := e2 k (by omega)
    show spec_PutTexts.l0 (k + 1) _ _ _ = _
    simp only [spec_PutTexts.l0]
    rw [if_pos (by omega), if_pos (by omega), rdOf_nat l i hil, e1 _ (by omega), Option.bind_some, w64 (by omega) (by omega), List.drop_eq_getElem_cons hil]
    exact hx
theorem spec_PutTexts_ev (b : List Int) (l : List ByteArray) (hb : b.length ≤ 10000000) (hn : l.length ≤ 10000000) (hs : sumSz l ≤ 10000000) : Ev (fun k => spec_PutTexts.f k b l) (putTextsM b l) := by
  have h2 := putNumM_len b l.length
  obtain ⟨K1, e1⟩ := Ev.get (spec_PutNum_ev b l.length (by omega))
  obtain ⟨K2, e2⟩ := Ev.get (spec_PutTexts_loop l hn hs _ 0 (putNumM b l.length) rfl (by omega) (by rw [List.drop_zero]; omega) (by rw [List.drop_zero]; omega))
  refine ⟨K1 + K2, fun k hk => ?_⟩
  show spec_PutTexts.f k b l = _
  unfold spec_PutTexts.f
  rw [e1 _ (by omega), Option.bind_some]
  exact e2 _ (by omega)
theorem impl_putTexts_loop (l : List ByteArray) (hn : l.length ≤ 10000000) (hs : sumSz l ≤ 10000000) : ∀ (d i : Nat) (b : List Int), l.length - i = d → i ≤ l.length → b.length + 5 * d + sumSz (l.drop i) ≤ 10000000000 → sumSz (l.drop i) ≤ 10000000 →
    Ev (fun k => impl_putTexts.l0 k b l (l.length : Int) (i : Int)) (ptsM b (l.drop i)) := by
  intro d
  induction d with
  | zero =>
    intro i b hd hi _ _
    obtain rfl : i = l.length := by omega
    refine Ev.up (Ev.now _) (fun k _ => ?_)
    simp only [impl_putTexts.l0]
    rw [if_neg (by omega), List.drop_length]
    rfl
  | succ d ih =>
    intro i b hd hi hb hz
    have hil : i < l.length := by omega
    rw [sumSz_drop l i hil] at hb hz
    have hl := putTextM_len b l[i]
    obtain ⟨K1, e1⟩ := Ev.get (impl_putText_ev b l[i] (by omega) (by omega))
    obtain ⟨K2, e2⟩ := Ev.get (ih (i + 1) (putTextM b l[i]) (by omega) (by omega) (by omega) (by omega))
    refine ⟨K1 + K2 + 1, fun k hk => ?_⟩
    obtain ⟨k, rfl⟩ : ∃ j, k = j + 1 := ⟨k - 1, by omega⟩
    have hx := e2 k (by omega)
    show impl_putTexts.l0 (k + 1) _ _ _ _ = _
    simp only [impl_putTexts.l0]
    rw [if_pos (by omega), if_pos (by omega), if_pos (by omega), rdOf_nat l i hil, e1 _ (by omega), Option.bind_some, w64 (by omega) (by omega), List.drop_eq_getElem_cons hil]
    exact hx
theorem impl_putTexts_ev (b : List Int) (l : List ByteArray) (hb : b.length ≤ 10000000) (hn : l.length ≤ 10000000) (hs : sumSz l ≤ 10000000) : Ev (fun k => impl_putTexts.f k b l) (putTextsM b l) := by
  have h2 := putNumM_len b l.length
  obtain ⟨K1, e1⟩ := Ev.get (impl_putNum_ev b l.length (by omega))
  obtain ⟨K2, e2⟩ := Ev.get (impl_putTexts_loop l hn hs _ 0 (putNumM b l.length) rfl (by omega) (by rw [List.drop_zero]; omega) (by rw [List.drop_zero]; omega))
  refine ⟨K1 + K2, fun k hk => ?_⟩
  show impl_putTexts.f k b l = _
  unfold impl_putTexts.f
  rw [e1 _ (by omega), Option.bind_some]
  exact e2 _ (by omega)
theorem impl_PutTexts_ev (b : List Int) (l : List ByteArray) (hb : b.length ≤ 10000000) (hn : l.length ≤ 10000000) (hs : sumSz l ≤ 10000000) : Ev (fun k => impl_PutTexts.f k b l) (putTextsM b l) := by
  obtain ⟨K, hK⟩ := Ev.get (impl_putTexts_ev b l hb hn hs)
  refine ⟨K, fun k hk => ?_⟩
  show impl_PutTexts.f k b l = _
  unfold impl_PutTexts.f
  rw [clone_ev b (by omega), Option.bind_some, hK k hk, Option.bind_some]
/-- What a reader of texts answers: texts left, place, texts so far. -/
def gtsM (b : List Int) : Nat → Int → List ByteArray → List ByteArray × Int × Bool
  | 0, p, acc => (acc, p, true)
  | n + 1, p, acc => if (getTextM b p).2.2 = true then gtsM b n (getTextM b p).2.1 (acc ++ [(getTextM b p).1]) else ([], 0, false)
def getTextsM (b : List Int) (a : Int) : List ByteArray × Int × Bool :=
  if (getNumM b a).2.2 = true then (if (getNumM b a).1 > 200 then ([], 0, false) else gtsM b (getNumM b a).1.toNat (getNumM b a).2.1 []) else ([], 0, false)
theorem getTextM_at {b : List Int} (hb : By b) (hl : b.length ≤ 140737488355328) {a : Int} : -9223372036854775808 ≤ (getTextM b a).2.1 ∧ (getTextM b a).2.1 ≤ 9223372036854775807 := by
  unfold getTextM
  by_cases c : (getNumM b a).2.2 = true
  · have h := getNumM_ok hb c
    rw [if_pos c]
    split
    · simp only; omega
    · simp only; omega
  · rw [if_neg c]; simp only; omega
theorem spec_GetTexts_loop (b : List Int) (hb : By b) (hl : b.length ≤ 140737488355328) (n : Nat) (hn : n ≤ 200) (x : Int) : ∀ (d i : Nat) (p : Int) (acc : List ByteArray), n - i = d → i ≤ n → -9223372036854775808 ≤ p ∧ p ≤ 9223372036854775807 → acc.length + d ≤ 1000 →
    Ev (fun k => spec_GetTexts.l0 k b (n : Int) p acc (i : Int)) (gtsM b d p acc) := by
  intro d
  induction d with
  | zero =>
    intro i p acc hd hi hp ha
    obtain rfl : i = n := by omega
    refine Ev.up (Ev.now _) (fun k _ => ?_)
    simp only [spec_GetTexts.l0]
    rw [if_neg (by omega)]
    rfl
  | succ d ih =>
    intro i p acc hd hi hp ha
    obtain ⟨K1, e1⟩ := Ev.get (spec_GetText_ev b hb hl p hp)
    rw [gtsM]
    by_cases c : (getTextM b p).2.2 = true
    · rw [if_pos c]
      obtain ⟨K2, e2⟩ := Ev.get (ih (i + 1) (getTextM b p).2.1 (acc ++ [(getTextM b p).1]) (by omega) (by omega) (getTextM_at hb hl) (by rw [List.length_append, List.length_singleton]; omega))
      refine ⟨K1 + K2 + 1, fun k hk => ?_⟩
      obtain ⟨k, rfl⟩ : ∃ j, k = j + 1 := ⟨k - 1, by omega⟩
      have hx := e2 k (by omega)
      show spec_GetTexts.l0 (k + 1) _ _ _ _ _ = _
      simp only [spec_GetTexts.l0]
      rw [if_pos (by omega), e1 _ (by omega), Option.bind_some, if_pos c, if_pos (by omega), w64 (by omega) (by omega)]
      exact hx
    · rw [if_neg c]
      refine ⟨K1 + 1, fun k hk => ?_⟩
      obtain ⟨k, rfl⟩ : ∃ j, k = j + 1 := ⟨k - 1, by omega⟩
      show spec_GetTexts.l0 (k + 1) _ _ _ _ _ = _
      simp only [spec_GetTexts.l0]
      rw [if_pos (by omega), e1 _ (by omega), Option.bind_some, if_neg c]
theorem spec_GetTexts_ev (b : List Int) (hb : By b) (hl : b.length ≤ 140737488355328) (a : Int) (ha : -9223372036854775808 ≤ a ∧ a ≤ 9223372036854775807) : Ev (fun k => spec_GetTexts.f k b a) (getTextsM b a) := by
  obtain ⟨K1, e1⟩ := Ev.get (spec_GetNum_ev b hb hl a ha)
  unfold getTextsM
  by_cases c : (getNumM b a).2.2 = true
  · have h := getNumM_ok hb c
    rw [if_pos c]
    by_cases c2 : (getNumM b a).1 > 200
    · rw [if_pos c2]
      refine ⟨K1 + 1, fun k hk => ?_⟩
      obtain ⟨k, rfl⟩ : ∃ j, k = j + 1 := ⟨k - 1, by omega⟩
      show spec_GetTexts.f (k + 1) b a = _
      unfold spec_GetTexts.f
      rw [e1 _ (by omega), Option.bind_some, if_pos c]
      simp only [spec_GetTexts.j0]
      rw [if_pos (by simpa using c2)]
    · rw [if_neg c2]
      have hv : ((getNumM b a).1.toNat : Int) = (getNumM b a).1 := by omega
      obtain ⟨K2, e2⟩ := Ev.get (spec_GetTexts_loop b hb hl (getNumM b a).1.toNat (by omega) 0 _ 0 (getNumM b a).2.1 [] rfl (by omega) (by omega) (by simp; omega))
      refine ⟨K1 + K2 + 1, fun k hk => ?_⟩
      obtain ⟨k, rfl⟩ : ∃ j, k = j + 1 := ⟨k - 1, by omega⟩
      have hx := e2 k (by omega)
      rw [hv] at hx
      show spec_GetTexts.f (k + 1) b a = _
      unfold spec_GetTexts.f
      rw [e1 _ (by omega), Option.bind_some, if_pos c]
      simp only [spec_GetTexts.j0]
      rw [if_neg (by simpa using c2)]
      exact hx
  · rw [if_neg c]
    refine ⟨K1 + 1, fun k hk => ?_⟩
    obtain ⟨k, rfl⟩ : ∃ j, k = j + 1 := ⟨k - 1, by omega⟩
    show spec_GetTexts.f (k + 1) b a = _
    unfold spec_GetTexts.f
    rw [e1 _ (by omega), Option.bind_some, if_neg c]
    simp only [spec_GetTexts.j0]
    rw [if_pos trivial]
theorem impl_GetTexts_loop (b : List Int) (hb : By b) (hl : b.length ≤ 140737488355328) (n : Nat) (hn : n ≤ 200) (x : Int) : ∀ (d i : Nat) (p : Int) (acc : List ByteArray), n - i = d → i ≤ n → -9223372036854775808 ≤ p ∧ p ≤ 9223372036854775807 → acc.length + d ≤ 1000 →
    Ev (fun k => impl_GetTexts.l0 k b p acc (n : Int) (i : Int)) (gtsM b d p acc) := by
  intro d
  induction d with
  | zero =>
    intro i p acc hd hi hp ha
    obtain rfl : i = n := by omega
    refine Ev.up (Ev.now _) (fun k _ => ?_)
    simp only [impl_GetTexts.l0]
    rw [if_neg (by omega)]
    rfl
  | succ d ih =>
    intro i p acc hd hi hp ha
    obtain ⟨K1, e1⟩ := Ev.get (impl_GetText_ev b hb hl p hp)
    rw [gtsM]
    by_cases c : (getTextM b p).2.2 = true
    · rw [if_pos c]
      obtain ⟨K2, e2⟩ := Ev.get (ih (i + 1) (getTextM b p).2.1 (acc ++ [(getTextM b p).1]) (by omega) (by omega) (getTextM_at hb hl) (by rw [List.length_append, List.length_singleton]; omega))
      refine ⟨K1 + K2 + 1, fun k hk => ?_⟩
      obtain ⟨k, rfl⟩ : ∃ j, k = j + 1 := ⟨k - 1, by omega⟩
      have hx := e2 k (by omega)
      show impl_GetTexts.l0 (k + 1) _ _ _ _ _ = _
      simp only [impl_GetTexts.l0]
      rw [if_pos (by omega), e1 _ (by omega), Option.bind_some, if_pos c, if_pos (by omega), w64 (by omega) (by omega)]
      exact hx
    · rw [if_neg c]
      refine ⟨K1 + 1, fun k hk => ?_⟩
      obtain ⟨k, rfl⟩ : ∃ j, k = j + 1 := ⟨k - 1, by omega⟩
      show impl_GetTexts.l0 (k + 1) _ _ _ _ _ = _
      simp only [impl_GetTexts.l0]
      rw [if_pos (by omega), e1 _ (by omega), Option.bind_some, if_neg c]
theorem impl_GetTexts_ev (b : List Int) (hb : By b) (hl : b.length ≤ 140737488355328) (a : Int) (ha : -9223372036854775808 ≤ a ∧ a ≤ 9223372036854775807) : Ev (fun k => impl_GetTexts.f k b a) (getTextsM b a) := by
  obtain ⟨K1, e1⟩ := Ev.get (impl_GetNum_ev b hb hl a ha)
  unfold getTextsM
  by_cases c : (getNumM b a).2.2 = true
  · have h := getNumM_ok hb c
    rw [if_pos c]
    by_cases c2 : (getNumM b a).1 > 200
    · rw [if_pos c2]
      refine ⟨K1 + 1, fun k hk => ?_⟩
      obtain ⟨k, rfl⟩ : ∃ j, k = j + 1 := ⟨k - 1, by omega⟩
      show impl_GetTexts.f (k + 1) b a = _
      unfold impl_GetTexts.f
      rw [e1 _ (by omega), Option.bind_some, if_pos c]
      simp only [impl_GetTexts.j0]
      rw [if_pos (by simpa using c2)]
    · rw [if_neg c2]
      have hv : ((getNumM b a).1.toNat : Int) = (getNumM b a).1 := by omega
      obtain ⟨K2, e2⟩ := Ev.get (impl_GetTexts_loop b hb hl (getNumM b a).1.toNat (by omega) 0 _ 0 (getNumM b a).2.1 [] rfl (by omega) (by omega) (by simp; omega))
      refine ⟨K1 + K2 + 1, fun k hk => ?_⟩
      obtain ⟨k, rfl⟩ : ∃ j, k = j + 1 := ⟨k - 1, by omega⟩
      have hx := e2 k (by omega)
      rw [hv] at hx
      show impl_GetTexts.f (k + 1) b a = _
      unfold impl_GetTexts.f
      rw [e1 _ (by omega), Option.bind_some, if_pos c]
      simp only [impl_GetTexts.j0]
      rw [if_neg (by simpa using c2)]
      exact hx
  · rw [if_neg c]
    refine ⟨K1 + 1, fun k hk => ?_⟩
    obtain ⟨k, rfl⟩ : ∃ j, k = j + 1 := ⟨k - 1, by omega⟩
    show impl_GetTexts.f (k + 1) b a = _
    unfold impl_GetTexts.f
    rw [e1 _ (by omega), Option.bind_some, if_neg c]
    simp only [impl_GetTexts.j0]
    rw [if_pos trivial]
theorem gtsM_len (b : List Int) : ∀ (n : Nat) (p : Int) (acc : List ByteArray), (gtsM b n p acc).1.length ≤ acc.length + n := by
  intro n
  induction n with
  | zero => intro p acc; simp [gtsM]
  | succ n ih =>
    intro p acc
    rw [gtsM]
    split
    · have := ih (getTextM b p).2.1 (acc ++ [(getTextM b p).1])
      rw [List.length_append, List.length_singleton] at this
      omega
    · simp
theorem getTextsM_len (b : List Int) (a : Int) : (getTextsM b a).1.length ≤ 200 := by
  unfold getTextsM
  split
  · split
    · simp
    · have := gtsM_len b (getNumM b a).1.toNat (getNumM b a).2.1 []
      simp only [List.length_nil] at this
      omega
  · simp
end Go.Proofs.Ytoeblihennmfnaa.P
