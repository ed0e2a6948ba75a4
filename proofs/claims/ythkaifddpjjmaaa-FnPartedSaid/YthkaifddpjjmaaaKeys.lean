/- Keys and pairs that are right: the program's and the reference's answer what the model answers. No condition but bounds on lengths. -/
import Derived.Test.YthkaifddpjjmaaaHash
import Derived.Test.YthkaifddpjjmaaaPx12
import Derived.Test.YthkaifddpjjmaaaPx7
import Derived.Test.YthkaifddpjjmaaaPx8
namespace Go.Proofs.Ythkaifddpjjmaaa.P
open Go.RowKit Go.Proofs.YthkaifddpjjmaaaW.PrintWords Go.Proofs.YthkaifddpjjmaaaW.PrintLast Go.Proofs.YthkaifddpjjmaaaW.PrintMore
set_option linter.unusedVariables false
set_option linter.unusedSimpArgs false
def okB (b : Int) : Bool := decide ((97 ≤ b ∧ b ≤ 122) ∨ (48 ≤ b ∧ b ≤ 57))
def wordM (l : List Int) : Bool := l.all okB
def keyOkM (s : ByteArray) : Bool := decide (1 ≤ s.size ∧ s.size ≤ 12) && wordM (bytesOf s)
def pairOkM (key val : ByteArray) : Bool := keyOkM key && decide (val.size ≤ 20)
theorem wordM_drop (s : ByteArray) (i : Nat) (h : i < s.size) : wordM ((bytesOf s).drop i) = (okB (bt s (i : Int)) && wordM ((bytesOf s).drop (i + 1))) := by
  rw [bt_drop s i h]
  rfl
theorem l1In_eq (a b c : Int) : spec_l1In.f a b c = some (decide (b ≤ a ∧ a ≤ c)) := by
  unfold spec_l1In.f
  by_cases h : a ≥ b
  · rw [if_pos h]
    congr 1
    exact decide_eq_decide.2 ⟨fun x => ⟨h, x⟩, fun x => x.2⟩
  · rw [if_neg h, decide_eq_false (by omega)]
theorem inRange_eq (a b c : Int) : impl_inRange.f a b c = some (decide (b ≤ a ∧ a ≤ c)) := by
  unfold impl_inRange.f
  by_cases h : a ≥ b
  · rw [if_pos h]
    congr 1
    exact decide_eq_decide.2 ⟨fun x => ⟨h, x⟩, fun x => x.2⟩
  · rw [if_neg h, decide_eq_false (by omega)]
theorem spec_KeyOk_loop (s : ByteArray) (hs : s.size ≤ 140737488355328) : ∀ d i : Nat, s.size - i = d → i ≤ s.size →
    Ev (fun k => spec_KeyOk.l0 k s (i : Int)) (decide (1 ≤ s.size ∧ s.size ≤ 12) && wordM ((bytesOf s).drop i)) := by
  intro d
  induction d with
  | zero =>
    intro i hd hi
    refine Ev.up (Ev.now _) (fun k _ => ?_)
    simp only [spec_KeyOk.l0]
    rw [if_neg (by omega), drop_end s i (by omega), l1In_eq, Option.bind_some]
    rw [show wordM [] = true from rfl, Bool.and_true]
    congr 1
    exact decide_eq_decide.2 (by omega)
  | succ d ih =>
    intro i hd hi
    have hb := bt_range s (i : Int)
    have hz := ih (i + 1) (by omega) (by omega)
    rw [wordM_drop s i (by omega)]
    by_cases c : okB (bt s (i : Int)) = true
    · rw [c, Bool.true_and]
      refine Ev.up hz (fun k hk => ?_)
      simp only [spec_KeyOk.l0]
      rw [if_pos (by omega), if_pos (by omega), w64 (x := bt s (i : Int)) (by omega) (by omega), l1In_eq, Option.bind_some, l1In_eq, Option.bind_some, w64 (by omega) (by omega)]
      unfold okB at c
      have c' := of_decide_eq_true c
      by_cases c1 : 97 ≤ bt s (i : Int) ∧ bt s (i : Int) ≤ 122
      · rw [if_pos (decide_eq_true c1)]; exact hk
      · rw [if_neg (by rw [decide_eq_false c1]; simp), if_pos (decide_eq_true (by omega))]; exact hk
    · have cf : okB (bt s (i : Int)) = false := by simpa using c
      rw [cf, Bool.false_and, Bool.and_false]
      refine Ev.up (Ev.now false) (fun k _ => ?_)
      simp only [spec_KeyOk.l0]
      unfold okB at c
      have c' : ¬ ((97 ≤ bt s (i : Int) ∧ bt s (i : Int) ≤ 122) ∨ (48 ≤ bt s (i : Int) ∧ bt s (i : Int) ≤ 57)) := fun h => c (decide_eq_true h)
      rw [if_pos (by omega), if_pos (by omega), w64 (x := bt s (i : Int)) (by omega) (by omega), l1In_eq, Option.bind_some, l1In_eq, Option.bind_some, decide_eq_false (by omega), if_neg (by simp), decide_eq_false (by omega), if_neg (by simp)]
theorem spec_KeyOk_ev (s : ByteArray) (hs : s.size ≤ 140737488355328) : Ev (fun k => spec_KeyOk.f k s) (keyOkM s) :=
  (spec_KeyOk_loop s hs _ 0 rfl (by omega)).congr (fun k => rfl)
theorem isKeyByte_eq (b : Int) : impl_isKeyByte.f b = some (okB b) := by
  unfold impl_isKeyByte.f okB
  by_cases h1 : b ≥ 97
  · rw [if_pos h1]
    by_cases h2 : b ≤ 122
    · rw [if_pos h2, decide_eq_true (by omega)]
    · rw [if_neg h2, if_pos (by omega), decide_eq_false (by omega), decide_eq_false (by omega)]
  · rw [if_neg h1]
    by_cases h2 : b ≥ 48
    · rw [if_pos h2]
      congr 1
      exact decide_eq_decide.2 (by omega)
    · rw [if_neg h2, decide_eq_false (by omega)]
theorem impl_isWord_loop (s : ByteArray) (hs : s.size ≤ 140737488355328) : ∀ d i : Nat, s.size - i = d → i ≤ s.size →
    Ev (fun k => impl_isWord.l0 k s (i : Int)) (wordM ((bytesOf s).drop i)) := by
  intro d
  induction d with
  | zero =>
    intro i hd hi
    refine Ev.up (Ev.now _) (fun k _ => ?_)
    simp only [impl_isWord.l0]
    rw [if_neg (by omega), drop_end s i (by omega)]
    rfl
  | succ d ih =>
    intro i hd hi
    have hz := ih (i + 1) (by omega) (by omega)
    rw [wordM_drop s i (by omega)]
    by_cases c : okB (bt s (i : Int)) = true
    · rw [c, Bool.true_and]
      refine Ev.up hz (fun k hk => ?_)
      simp only [impl_isWord.l0]
      rw [if_pos (by omega), if_pos (by omega), isKeyByte_eq, Option.bind_some, if_pos c, w64 (by omega) (by omega)]
      exact hk
    · have cf : okB (bt s (i : Int)) = false := by simpa using c
      rw [cf, Bool.false_and]
      refine Ev.up (Ev.now false) (fun k _ => ?_)
      simp only [impl_isWord.l0]
      rw [if_pos (by omega), if_pos (by omega), isKeyByte_eq, Option.bind_some, if_neg c]
theorem impl_KeyOk_ev (s : ByteArray) (hs : s.size ≤ 140737488355328) : Ev (fun k => impl_KeyOk.f k s) (keyOkM s) := by
  obtain ⟨K, hK⟩ := Ev.get (impl_isWord_loop s hs _ 0 rfl (by omega))
  refine ⟨K, fun k hk => ?_⟩
  show impl_KeyOk.f k s = _
  unfold impl_KeyOk.f impl_isWord.f keyOkM
  have h := hK k hk
  rw [inRange_eq, Option.bind_some]
  by_cases c : 1 ≤ s.size ∧ s.size ≤ 12
  · rw [if_pos (decide_eq_true (by omega)), show (0 : Int) = ((0 : Nat) : Int) from rfl, h, Option.bind_some, decide_eq_true c, Bool.true_and]
    rfl
  · rw [decide_eq_false (by omega), if_neg (by simp), decide_eq_false c, Bool.false_and]
theorem spec_PairOk_ev (a b : ByteArray) (hs : a.size ≤ 140737488355328) : Ev (fun k => spec_PairOk.f k a b) (pairOkM a b) := by
  obtain ⟨K, hK⟩ := Ev.get (spec_KeyOk_ev a hs)
  refine ⟨K, fun k hk => ?_⟩
  show spec_PairOk.f k a b = _
  unfold spec_PairOk.f pairOkM
  rw [hK k hk, Option.bind_some]
  by_cases c : keyOkM a = true
  · rw [if_pos c, c, Bool.true_and]
    congr 1
    exact decide_eq_decide.2 (by omega)
  · rw [if_neg c, Bool.eq_false_iff.2 c, Bool.false_and]
theorem impl_PairOk_ev (a b : ByteArray) (hs : a.size ≤ 140737488355328) : Ev (fun k => impl_PairOk.f k a b) (pairOkM a b) := by
  obtain ⟨K, hK⟩ := Ev.get (impl_KeyOk_ev a hs)
  refine ⟨K, fun k hk => ?_⟩
  show impl_PairOk.f k a b = _
  unfold impl_PairOk.f pairOkM
  rw [hK k hk, Option.bind_some]
  by_cases c : keyOkM a = true
  · rw [if_pos c, c, Bool.true_and]
    congr 1
    exact decide_eq_decide.2 (by omega)
  · rw [if_neg c, Bool.eq_false_iff.2 c, Bool.false_and]
end Go.Proofs.Ythkaifddpjjmaaa.P
