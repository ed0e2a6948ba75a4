import Derived.Test.YtgmfhchhbidlnaaWAll
import Derived.Laws.BitsAllLaws
import Derived.Laws.Bits128
import Derived.Test.YtgmfhchhbidlnaaPx0
import Derived.Test.YtgmfhchhbidlnaaPx1
import Derived.Test.YtgmfhchhbidlnaaPx14
import Derived.Test.YtgmfhchhbidlnaaPx3
import Derived.Test.YtgmfhchhbidlnaaPx17
import Derived.Test.YtgmfhchhbidlnaaPx6
import Derived.Test.YtgmfhchhbidlnaaPx8
import Derived.Test.YtgmfhchhbidlnaaDg5
import Derived.Test.YtgmfhchhbidlnaaDg0
import Derived.Test.YtgmfhchhbidlnaaDg1
import Derived.Test.YtgmfhchhbidlnaaDg2
import Derived.Test.YtgmfhchhbidlnaaDg3
import Derived.Test.YtgmfhchhbidlnaaPx10
import Derived.Test.YtgmfhchhbidlnaaPx5
import Derived.Test.YtgmfhchhbidlnaaPx15
import Derived.Test.YtgmfhchhbidlnaaPx7
import Derived.Test.YtgmfhchhbidlnaaStr
import Derived.Test.YtgmfhchhbidlnaaPx12
import Derived.Test.YtgmfhchhbidlnaaPx16
import Derived.Laws.Strings
import Derived.Test.YtgmfhchhbidlnaaPx18
import Derived.Test.YtgmfhchhbidlnaaPx20
import Derived.Test.YtgmfhchhbidlnaaPx13
/- Plain facts about whole numbers, bytes, texts and rounds: no program in sight. No condition. -/
namespace Go.Proofs.Ytgmfhchhbidlnaa.P
open Go.RowKit Go.Proofs.YtgmfhchhbidlnaaW.PrintWords Go.Proofs.YtgmfhchhbidlnaaW.PrintLast Go.Proofs.YtgmfhchhbidlnaaW.PrintMore
set_option linter.unusedVariables false
set_option linter.unusedSimpArgs false
theorem w64 {x : Int} (h1 : -9223372036854775808 ≤ x) (h2 : x ≤ 9223372036854775807) : wrap64 x = x := by unfold wrap64; omega
theorem _root_.Go.Proofs.YtgmfhchhbidlnaaW.PrintWords.Ev.get {α : Type} {g : Nat → Option α} {r : α} (h : Ev g r) : ∃ K, ∀ k, K ≤ k → g k = some r := h
theorem _root_.Go.Proofs.YtgmfhchhbidlnaaW.PrintWords.Ev.mk {α : Type} {g : Nat → Option α} {r : α} (K : Nat) (h : ∀ k, K ≤ k → g k = some r) : Ev g r := ⟨K, h⟩
theorem _root_.Go.Proofs.YtgmfhchhbidlnaaW.PrintWords.Ev.up {α : Type} {g f : Nat → Option α} {r : α} (k : Ev f r) (h : ∀ k, f k = some r → g (k + 1) = some r) : Ev g r := by
 obtain ⟨K, hK⟩ := k
 refine ⟨K + 1, fun k hk => ?_⟩
 obtain ⟨k, rfl⟩ : ∃ m, k = m + 1 := ⟨k - 1, by omega⟩
 exact h k (hK k (by omega))
theorem _root_.Go.Proofs.YtgmfhchhbidlnaaW.PrintWords.Ev.eq {α : Type} {g : Nat → Option α} {r q : α} (h : Ev g r) (h' : Ev g q) : r = q := by
 obtain ⟨K, hK⟩ := h
 obtain ⟨L, hL⟩ := h'
 have h1 := hK (max K L) (Nat.le_max_left _ _)
 have h2 := hL (max K L) (Nat.le_max_right _ _)
 rw [h1] at h2
 exact Option.some.inj h2
theorem _root_.Go.Proofs.YtgmfhchhbidlnaaW.PrintWords.Ev.cast {α : Type} {g : Nat → Option α} {r q : α} (h : Ev g r) (e : r = q) : Ev g q := e ▸ h
def By (l : List Int) : Prop := ∀ x ∈ l, 0 ≤ x ∧ x < 256
theorem By.nil : By [] := fun _ h => by cases h
theorem By.app {a b : List Int} (h : By a) (k : By b) : By (a ++ b) := fun x hx => by
 rcases List.mem_append.1 hx with h1 | h1
 · exact h x h1
 · exact k x h1
theorem By.one {x : Int} (h0 : 0 ≤ x) (h1 : x < 256) : By [x] := fun y hy => by
 rw [List.mem_singleton.1 hy]
 exact ⟨h0, h1⟩
theorem By.bytesOf (s : ByteArray) : By (bytesOf s) := fun x hx => by
 obtain ⟨b, _, rfl⟩ := List.mem_map.1 hx
 have := b.toNat_lt
 omega
theorem By.rd {l : List Int} (h : By l) (i : Int) : 0 ≤ rd l i ∧ rd l i < 256 := by
 unfold Go.Proofs.YtgmfhchhbidlnaaW.PrintWords.rd
 rw [List.getD_eq_getElem?_getD]
 by_cases hi : i.toNat < l.length
 · rw [List.getElem?_eq_getElem hi]
   exact h _ (List.getElem_mem hi)
 · rw [List.getElem?_eq_none (by omega)]
   simp
theorem rd_nat (l : List Int) (i : Nat) (h : i < l.length) : rd l (i : Int) = l[i] := by
 unfold rd
 simp [List.getD_eq_getElem?_getD, h]
theorem i64_wrap_small {n : Int} (h0 : 0 ≤ n) (h1 : n < 9223372036854775808) : IntKind.i64.wrap n = n := by rw [IntKind.wrap_i64]; omega
theorem ofInt64 (a : Nat) (ha : a < 9223372036854775808) : (BitVec.ofInt 64 (a : Int)).toNat = a := by
 rw [BitVec.ofInt_natCast, BitVec.toNat_ofNat]
 exact Nat.mod_eq_of_lt (by omega)
theorem i64_and_nat (a b : Nat) (ha : a < 9223372036854775808) (hb : b < 9223372036854775808) : Go.bits .and .i64 (a : Int) (b : Int) = ((a &&& b : Nat) : Int) := by
 show IntKind.i64.wrap (((BitVec.ofInt 64 (a : Int)) &&& (BitVec.ofInt 64 (b : Int))).toNat : Int) = _
 rw [BitVec.toNat_and, ofInt64 a ha, ofInt64 b hb]
 have h_ : a &&& b ≤ a := Nat.and_le_left
 exact i64_wrap_small (n := ((a &&& b : Nat) : Int)) (Int.natCast_nonneg _) (by omega)
theorem i64_or_nat (a b : Nat) (ha : a < 9223372036854775808) (hb : b < 9223372036854775808) : Go.bits .or .i64 (a : Int) (b : Int) = ((a ||| b : Nat) : Int) := by
 show IntKind.i64.wrap (((BitVec.ofInt 64 (a : Int)) ||| (BitVec.ofInt 64 (b : Int))).toNat : Int) = _
 rw [BitVec.toNat_or, ofInt64 a ha, ofInt64 b hb]
 have h_ : a ||| b < 2 ^ 63 := Nat.or_lt_two_pow (by omega) (by omega)
 exact i64_wrap_small (n := ((a ||| b : Nat) : Int)) (Int.natCast_nonneg _) (by omega)
theorem i64_xor_nat (a b : Nat) (ha : a < 9223372036854775808) (hb : b < 9223372036854775808) : Go.bits .xor .i64 (a : Int) (b : Int) = ((a ^^^ b : Nat) : Int) := by
 show IntKind.i64.wrap (((BitVec.ofInt 64 (a : Int)) ^^^ (BitVec.ofInt 64 (b : Int))).toNat : Int) = _
 rw [BitVec.toNat_xor, ofInt64 a ha, ofInt64 b hb]
 have h_ : a ^^^ b < 2 ^ 63 := Nat.xor_lt_two_pow (by omega) (by omega)
 exact i64_wrap_small (n := ((a ^^^ b : Nat) : Int)) (Int.natCast_nonneg _) (by omega)
end Go.Proofs.Ytgmfhchhbidlnaa.P
/- The laws' helpers: copies, comparisons, marks and what is held, each by what it answers. No condition but bounds on lengths. -/
namespace Go.Proofs.Ytgmfhchhbidlnaa.P
open Go.RowKit Go.Proofs.YtgmfhchhbidlnaaW.PrintWords Go.Proofs.YtgmfhchhbidlnaaW.PrintLast Go.Proofs.YtgmfhchhbidlnaaW.PrintMore
set_option linter.unusedVariables false
set_option linter.unusedSimpArgs false
end Go.Proofs.Ytgmfhchhbidlnaa.P
/- The laws' reckoning of sizes. No condition but bounds on what one text may hold. -/
namespace Go.Proofs.Ytgmfhchhbidlnaa.P
open Go.RowKit Go.Proofs.YtgmfhchhbidlnaaW.PrintWords Go.Proofs.YtgmfhchhbidlnaaW.PrintLast Go.Proofs.YtgmfhchhbidlnaaW.PrintMore
set_option linter.unusedVariables false
set_option linter.unusedSimpArgs false
end Go.Proofs.Ytgmfhchhbidlnaa.P
/- The laws' helpers over rows of pairs, of orders, of texts: copies, comparisons, marks, what is held, sizes. No condition but bounds on lengths. -/
namespace Go.Proofs.Ytgmfhchhbidlnaa.P
open Go.RowKit Go.Proofs.YtgmfhchhbidlnaaW.PrintWords Go.Proofs.YtgmfhchhbidlnaaW.PrintLast Go.Proofs.YtgmfhchhbidlnaaW.PrintMore
set_option linter.unusedVariables false
set_option linter.unusedSimpArgs false
theorem rdOf_nat (l : List ByteArray) (i : Nat) (h : i < l.length) : rdOf ByteArray.empty l (i : Int) = l[i] := by
 unfold rdOf
 simp [List.getD_eq_getElem?_getD, h]
theorem rd_45_nat (l : List S45) (i : Nat) (h : i < l.length) : rd_T45 l (i : Int) = l[i] := by
 unfold rd_T45
 simp [List.getD_eq_getElem?_getD, h]
end Go.Proofs.Ytgmfhchhbidlnaa.P
/- The hash of a text, and the shard of a key: the program's and the reference's answer what the model answers. No condition but bounds on lengths. -/
namespace Go.Proofs.Ytgmfhchhbidlnaa.P
open Go.RowKit Go.Proofs.YtgmfhchhbidlnaaW.PrintWords Go.Proofs.YtgmfhchhbidlnaaW.PrintLast Go.Proofs.YtgmfhchhbidlnaaW.PrintMore
set_option linter.unusedVariables false
set_option linter.unusedSimpArgs false
theorem bt_drop (s : ByteArray) (i : Nat) (h : i < s.size) : (bytesOf s).drop i = bt s (i : Int) :: (bytesOf s).drop (i + 1) := by
 have hl : i < (bytesOf s).length := by rw [bytesOf_length]; exact h
 rw [List.drop_eq_getElem_cons hl, ← rd_bytesOf, rd_nat _ _ hl]
theorem drop_end (s : ByteArray) (i : Nat) (h : s.size ≤ i) : (bytesOf s).drop i = [] := List.drop_eq_nil_of_le (by rw [bytesOf_length]; exact h)
end Go.Proofs.Ytgmfhchhbidlnaa.P
/- Keys and pairs that are right: the program's and the reference's answer what the model answers. No condition but bounds on lengths. -/
namespace Go.Proofs.Ytgmfhchhbidlnaa.P
open Go.RowKit Go.Proofs.YtgmfhchhbidlnaaW.PrintWords Go.Proofs.YtgmfhchhbidlnaaW.PrintLast Go.Proofs.YtgmfhchhbidlnaaW.PrintMore
set_option linter.unusedVariables false
set_option linter.unusedSimpArgs false
def okB (b : Int) : Bool := decide ((97 ≤ b ∧ b ≤ 122) ∨ (48 ≤ b ∧ b ≤ 57))
def wordM (l : List Int) : Bool := l.all okB
def keyOkM (s : ByteArray) : Bool := decide (1 ≤ s.size ∧ s.size ≤ 12) && wordM (bytesOf s)
def pairOkM (key val : ByteArray) : Bool := keyOkM key && decide (val.size ≤ 20)
theorem wordM_drop (s : ByteArray) (i : Nat) (h : i < s.size) : wordM ((bytesOf s).drop i) = (okB (bt s (i : Int)) && wordM ((bytesOf s).drop (i + 1))) := by
 rw [bt_drop s i h]
 rfl
theorem l1In_eq (a b c : Int) : spec_l1In.f a b c = some (decide (b ≤ a ∧ a ≤ c)) := by
 unfold spec_l1In.f
 by_cases h : a ≥ b
 · rw [if_pos h]
   congr 1
   exact decide_eq_decide.2 ⟨fun x => ⟨h, x⟩, fun x => x.2⟩
 · rw [if_neg h, decide_eq_false (by omega)]
theorem inRange_eq (a b c : Int) : impl_inRange.f a b c = some (decide (b ≤ a ∧ a ≤ c)) := by
 unfold impl_inRange.f
 by_cases h : a ≥ b
 · rw [if_pos h]
   congr 1
   exact decide_eq_decide.2 ⟨fun x => ⟨h, x⟩, fun x => x.2⟩
 · rw [if_neg h, decide_eq_false (by omega)]
theorem spec_KeyOk_loop (s : ByteArray) (hs : s.size ≤ 140737488355328) : ∀ d i : Nat, s.size - i = d → i ≤ s.size →
 Ev (fun k => spec_KeyOk.l0 k s (i : Int)) (decide (1 ≤ s.size ∧ s.size ≤ 12) && wordM ((bytesOf s).drop i)) := by
 intro d
 induction d with
 | zero =>
  intro i hd hi
  refine Ev.up (Ev.now _) (fun k _ => ?_)
  simp only [spec_KeyOk.l0]
  rw [if_neg (by omega), drop_end s i (by omega), l1In_eq, Option.bind_some]
  rw [show wordM [] = true from rfl, Bool.and_true]
  congr 1
  exact decide_eq_decide.2 (by omega)
 | succ d ih =>
  intro i hd hi
  have hb := bt_range s (i : Int)
  have hz := ih (i + 1) (by omega) (by omega)
  rw [wordM_drop s i (by omega)]
  by_cases c : okB (bt s (i : Int)) = true
  ·
   rw [c, Bool.true_and]
   refine Ev.up hz (fun k hk => ?_)
   simp only [spec_KeyOk.l0]
   rw [if_pos (by omega), if_pos (by omega), w64 (x := bt s (i : Int)) (by omega) (by omega), l1In_eq, Option.bind_some, l1In_eq, Option.bind_some, w64 (by omega) (by omega)]
   unfold okB at c
   have c' := of_decide_eq_true c
   by_cases c1 : 97 ≤ bt s (i : Int) ∧ bt s (i : Int) ≤ 122
   · rw [if_pos (decide_eq_true c1)]; exact hk
   · rw [if_neg (by rw [decide_eq_false c1]; simp), if_pos (decide_eq_true (by omega))]; exact hk
  ·
   have cf : okB (bt s (i : Int)) = false := by simpa using c
   rw [cf, Bool.false_and, Bool.and_false]
   refine Ev.up (Ev.now false) (fun k _ => ?_)
   simp only [spec_KeyOk.l0]
   unfold okB at c
   have c' : ¬ ((97 ≤ bt s (i : Int) ∧ bt s (i : Int) ≤ 122) ∨ (48 ≤ bt s (i : Int) ∧ bt s (i : Int) ≤ 57)) := fun h => c (decide_eq_true h)
   rw [if_pos (by omega), if_pos (by omega), w64 (x := bt s (i : Int)) (by omega) (by omega), l1In_eq, Option.bind_some, l1In_eq, Option.bind_some, decide_eq_false (by omega), if_neg (by simp), decide_eq_false (by omega), if_neg (by simp)]
theorem spec_KeyOk_ev (s : ByteArray) (hs : s.size ≤ 140737488355328) : Ev (fun k => spec_KeyOk.f k s) (keyOkM s) :=
 (spec_KeyOk_loop s hs _ 0 rfl (by omega)).congr (fun k => rfl)
theorem isKeyByte_eq (b : Int) : impl_isKeyByte.f b = some (okB b) := by
 unfold impl_isKeyByte.f okB
 by_cases h1 : b ≥ 97
 · rw [if_pos h1]
   by_cases h2 : b ≤ 122
   · rw [if_pos h2, decide_eq_true (by omega)]
   · rw [if_neg h2, if_pos (by omega), decide_eq_false (by omega), decide_eq_false (by omega)]
 ·
  rw [if_neg h1]
  by_cases h2 : b ≥ 48
  · rw [if_pos h2]
    congr 1
    exact decide_eq_decide.2 (by omega)
  · rw [if_neg h2, decide_eq_false (by omega)]
theorem impl_isWord_loop (s : ByteArray) (hs : s.size ≤ 140737488355328) : ∀ d i : Nat, s.size - i = d → i ≤ s.size →
 Ev (fun k => impl_isWord.l0 k s (i : Int)) (wordM ((bytesOf s).drop i)) := by
 intro d
 induction d with
 | zero =>
  intro i hd hi
  refine Ev.up (Ev.now _) (fun k _ => ?_)
  simp only [impl_isWord.l0]
  rw [if_neg (by omega), drop_end s i (by omega)]
  rfl
 | succ d ih =>
  intro i hd hi
  have hz := ih (i + 1) (by omega) (by omega)
  rw [wordM_drop s i (by omega)]
  by_cases c : okB (bt s (i : Int)) = true
  · rw [c, Bool.true_and]
    refine Ev.up hz (fun k hk => ?_)
    simp only [impl_isWord.l0]
    rw [if_pos (by omega), if_pos (by omega), isKeyByte_eq, Option.bind_some, if_pos c, w64 (by omega) (by omega)]
    exact hk
  · have cf : okB (bt s (i : Int)) = false := by simpa using c
    rw [cf, Bool.false_and]
    refine Ev.up (Ev.now false) (fun k _ => ?_)
    simp only [impl_isWord.l0]
    rw [if_pos (by omega), if_pos (by omega), isKeyByte_eq, Option.bind_some, if_neg c]
theorem impl_KeyOk_ev (s : ByteArray) (hs : s.size ≤ 140737488355328) : Ev (fun k => impl_KeyOk.f k s) (keyOkM s) := by
 obtain ⟨K, hK⟩ := Ev.get (impl_isWord_loop s hs _ 0 rfl (by omega))
 refine ⟨K, fun k hk => ?_⟩
 show impl_KeyOk.f k s = _
 unfold impl_KeyOk.f impl_isWord.f keyOkM
 have h := hK k hk
 rw [inRange_eq, Option.bind_some]
 by_cases c : 1 ≤ s.size ∧ s.size ≤ 12
 · rw [if_pos (decide_eq_true (by omega)), show (0 : Int) = ((0 : Nat) : Int) from rfl, h, Option.bind_some, decide_eq_true c, Bool.true_and]
   rfl
 · rw [decide_eq_false (by omega), if_neg (by simp), decide_eq_false c, Bool.false_and]
theorem spec_PairOk_ev (a b : ByteArray) (hs : a.size ≤ 140737488355328) : Ev (fun k => spec_PairOk.f k a b) (pairOkM a b) := by
 obtain ⟨K, hK⟩ := Ev.get (spec_KeyOk_ev a hs)
 refine ⟨K, fun k hk => ?_⟩
 show spec_PairOk.f k a b = _
 unfold spec_PairOk.f pairOkM
 rw [hK k hk, Option.bind_some]
 by_cases c : keyOkM a = true
 · rw [if_pos c, c, Bool.true_and]
   congr 1
   exact decide_eq_decide.2 (by omega)
 · rw [if_neg c, Bool.eq_false_iff.2 c, Bool.false_and]
theorem impl_PairOk_ev (a b : ByteArray) (hs : a.size ≤ 140737488355328) : Ev (fun k => impl_PairOk.f k a b) (pairOkM a b) := by
 obtain ⟨K, hK⟩ := Ev.get (impl_KeyOk_ev a hs)
 refine ⟨K, fun k hk => ?_⟩
 show impl_PairOk.f k a b = _
 unfold impl_PairOk.f pairOkM
 rw [hK k hk, Option.bind_some]
 by_cases c : keyOkM a = true
 · rw [if_pos c, c, Bool.true_and]
   congr 1
   exact decide_eq_decide.2 (by omega)
 · rw [if_neg c, Bool.eq_false_iff.2 c, Bool.false_and]
end Go.Proofs.Ytgmfhchhbidlnaa.P
/- Rows of pairs and of orders: whether they keep the rules, the program's answer and the reference's. No condition but bounds on lengths. -/
namespace Go.Proofs.Ytgmfhchhbidlnaa.P
open Go.RowKit Go.Proofs.YtgmfhchhbidlnaaW.PrintWords Go.Proofs.YtgmfhchhbidlnaaW.PrintLast Go.Proofs.YtgmfhchhbidlnaaW.PrintMore
set_option linter.unusedVariables false
set_option linter.unusedSimpArgs false
def pokM (l : List S45) : Nat → Nat → Bool
 | 0, _ => decide ((l.length : Int) ≤ 60)
 | d + 1, i =>
  if pairOkM (rd_T45 l i).f0 (rd_T45 l i).f1 = true then
   if (i : Int) > 0 then
    if Op.bytesLess (rd_T45 l ((i : Int) - 1)).f0.toList (rd_T45 l i).f0.toList = true then pokM l d (i + 1) else false
   else pokM l d (i + 1)
  else false
theorem spec_PairsOk_loop (l : List S45) (hn : l.length ≤ 1000000000000) (hs : ∀ p ∈ l, p.f0.size ≤ 140737488355328) : ∀ d i : Nat, l.length - i = d → i ≤ l.length →
 Ev (fun k => spec_PairsOk.l0 k l (i : Int)) (pokM l d i) := by
 intro d
 induction d with
 | zero =>
  intro i hd hi
  refine Ev.up (Ev.now _) (fun k _ => ?_)
  simp only [spec_PairsOk.l0]
  rw [if_neg (by omega)]
  rfl
 | succ d ih =>
  intro i hd hi
  have hil : i < l.length := by omega
  have hsz : (rd_T45 l (i : Int)).f0.size ≤ 140737488355328 := by rw [rd_45_nat l i hil]; exact hs _ (List.getElem_mem hil)
  obtain ⟨K1, e1⟩ := Ev.get (spec_PairOk_ev (rd_T45 l (i : Int)).f0 (rd_T45 l (i : Int)).f1 hsz)
  obtain ⟨K2, e2⟩ := Ev.get (ih (i + 1) (by omega) (by omega))
  refine ⟨K1 + K2 + 1, fun k hk => ?_⟩
  obtain ⟨k, rfl⟩ : ∃ j, k = j + 1 := ⟨k - 1, by omega⟩
  have hx := e2 k (by omega)
  show spec_PairsOk.l0 (k + 1) _ _ = _
  simp only [spec_PairsOk.l0]
  rw [if_pos (by omega), if_pos (by omega), e1 _ (by omega), Option.bind_some, pokM]
  by_cases c : pairOkM (rd_T45 l (i : Int)).f0 (rd_T45 l (i : Int)).f1 = true
  ·
   rw [if_pos c, if_pos c]
   by_cases c2 : (i : Int) > 0
   · rw [if_pos c2, if_pos c2, w64 (by omega) (by omega), w64 (by omega) (by omega), if_pos (by omega), if_pos (by omega)]
     by_cases c3 : Op.bytesLess (rd_T45 l ((i : Int) - 1)).f0.toList (rd_T45 l i).f0.toList = true
     · rw [if_pos c3, if_pos c3]; exact hx
     · rw [if_neg c3, if_neg c3]
   · rw [if_neg c2, if_neg c2, w64 (by omega) (by omega)]; exact hx
  · rw [if_neg c, if_neg c]
theorem spec_PairsOk_ev (l : List S45) (hn : l.length ≤ 1000000000000) (hs : ∀ p ∈ l, p.f0.size ≤ 140737488355328) : Ev (fun k => spec_PairsOk.f k l) (pokM l l.length 0) :=
 spec_PairsOk_loop l hn hs _ 0 rfl (by omega)
theorem impl_PairsOk_loop (l : List S45) (hn : l.length ≤ 1000000000000) (hs : ∀ p ∈ l, p.f0.size ≤ 140737488355328) : ∀ d i : Nat, l.length - i = d → i ≤ l.length →
 Ev (fun k => impl_PairsOk.l0 k l l (l.length : Int) (i : Int)) (pokM l d i) := by
 intro d
 induction d with
 | zero =>
  intro i hd hi
  refine Ev.up (Ev.now _) (fun k _ => ?_)
  simp only [impl_PairsOk.l0]
  rw [if_neg (by omega)]
  rfl
 | succ d ih =>
  intro i hd hi
  have hil : i < l.length := by omega
  have hsz : (rd_T45 l (i : Int)).f0.size ≤ 140737488355328 := by rw [rd_45_nat l i hil]; exact hs _ (List.getElem_mem hil)
  obtain ⟨K1, e1⟩ := Ev.get (impl_PairOk_ev (rd_T45 l (i : Int)).f0 (rd_T45 l (i : Int)).f1 hsz)
  obtain ⟨K2, e2⟩ := Ev.get (ih (i + 1) (by omega) (by omega))
  refine ⟨K1 + K2 + 1, fun k hk => ?_⟩
  obtain ⟨k, rfl⟩ : ∃ j, k = j + 1 := ⟨k - 1, by omega⟩
  have hx := e2 k (by omega)
  show impl_PairsOk.l0 (k + 1) _ _ _ _ = _
  simp only [impl_PairsOk.l0]
  rw [if_pos (by omega), if_pos (by omega), if_pos (by omega), e1 _ (by omega), Option.bind_some, pokM]
  by_cases c : pairOkM (rd_T45 l (i : Int)).f0 (rd_T45 l (i : Int)).f1 = true
  ·
   rw [if_pos c, if_pos c]
   by_cases c2 : (i : Int) > 0
   · rw [if_pos c2, if_pos c2, w64 (by omega) (by omega), w64 (by omega) (by omega), if_pos (by omega), if_pos (by omega)]
     by_cases c3 : Op.bytesLess (rd_T45 l ((i : Int) - 1)).f0.toList (rd_T45 l i).f0.toList = true
     · rw [if_pos c3, if_pos c3]; exact hx
     · rw [if_neg c3, if_neg c3]
   · rw [if_neg c2, if_neg c2, w64 (by omega) (by omega)]; exact hx
  · rw [if_neg c, if_neg c]
theorem impl_PairsOk_ev (l : List S45) (hn : l.length ≤ 1000000000000) (hs : ∀ p ∈ l, p.f0.size ≤ 140737488355328) : Ev (fun k => impl_PairsOk.f k l) (pokM l l.length 0) :=
 impl_PairsOk_loop l hn hs _ 0 rfl (by omega)
end Go.Proofs.Ytgmfhchhbidlnaa.P
/- Numbers and texts as bytes: what the program's and the reference's writers and readers compute. No condition but bounds on lengths. -/
namespace Go.Proofs.Ytgmfhchhbidlnaa.P
open Go.RowKit Go.Proofs.YtgmfhchhbidlnaaW.PrintWords Go.Proofs.YtgmfhchhbidlnaaW.PrintLast Go.Proofs.YtgmfhchhbidlnaaW.PrintMore
set_option linter.unusedVariables false
set_option linter.unusedSimpArgs false
def encN (n : Nat) : List Int := if n > 127 then ((n % 128 + 128 : Nat) : Int) :: encN (n / 128) else [(n : Int)]
termination_by n
decreasing_by omega
theorem encN_big {n : Nat} (h : 127 < n) : encN n = ((n % 128 + 128 : Nat) : Int) :: encN (n / 128) := by
 rw [encN, if_pos h]
theorem encN_small {n : Nat} (h : n ≤ 127) : encN n = [(n : Int)] := by
 rw [encN, if_neg (by omega)]
theorem encN_by (n : Nat) : By (encN n) := by
 induction n using Nat.strongRecOn with
 | _ n ih =>
  by_cases h : 127 < n
  · rw [encN_big h]
    exact By.app (a := [_]) (By.one (by omega) (by omega)) (ih (n / 128) (by omega))
  · rw [encN_small (by omega)]
    exact By.one (by omega) (by omega)
theorem encN_len5 (n : Nat) (h : n ≤ 1000000000) : (encN n).length ≤ 5 := by
 by_cases h1 : 127 < n
 ·
  rw [encN_big h1]
  by_cases h2 : 127 < n / 128
  ·
   rw [encN_big h2]
   by_cases h3 : 127 < n / 128 / 128
   · rw [encN_big h3]
     by_cases h4 : 127 < n / 128 / 128 / 128
     · rw [encN_big h4]
       rw [encN_small (by omega)]
       simp
     · rw [encN_small (by omega)]; simp
   · rw [encN_small (by omega)]; simp
  · rw [encN_small (by omega)]; simp
 · rw [encN_small (by omega)]; simp
def clampN (n : Int) : Nat := if n > 1000000000 then 1000000000 else if n < 0 then 0 else n.toNat
theorem clampN_le (n : Int) : clampN n ≤ 1000000000 := by unfold clampN; (repeat' split) <;> omega
def putNumM (b : List Int) (n : Int) : List Int := b ++ encN (clampN n)
def putTextM (b : List Int) (s : ByteArray) : List Int := putNumM b s.size ++ bytesOf s
theorem putNumM_by {b : List Int} (h : By b) (n : Int) : By (putNumM b n) := By.app h (encN_by _)
theorem putTextM_by {b : List Int} (h : By b) (s : ByteArray) : By (putTextM b s) := By.app (putNumM_by h _) (By.bytesOf s)
theorem putNumM_len (b : List Int) (n : Int) : (putNumM b n).length ≤ b.length + 5 := by
 have := encN_len5 _ (clampN_le n)
 simp [putNumM]
 omega
theorem putTextM_len (b : List Int) (s : ByteArray) : (putTextM b s).length ≤ b.length + 5 + s.size := by
 have := putNumM_len b s.size
 simp [putTextM, bytesOf_length]
 omega
theorem or_enc (x : Nat) : (Go.bits .or .i64 128 (Go.bits .and .i64 (x : Int) 127)) % 256 = ((x % 128 + 128 : Nat) : Int) := by
 rw [i64_and127]
 have e : ((x : Int) % 128) = ((x % 128 : Nat) : Int) := by omega
 rw [e]
 have := i64_or_nat 128 (x % 128) (by omega) (by omega)
 rw [show (128 : Int) = ((128 : Nat) : Int) from rfl, this, nat_join 7 128 (x % 128) (by decide) (by omega)]
 omega
theorem or_enc' (x : Nat) : (Go.bits .or .i64 (Go.bits .and .i64 (x : Int) 127) 128) % 256 = ((x % 128 + 128 : Nat) : Int) := by
 rw [i64_and127]
 have e : ((x : Int) % 128) = ((x % 128 : Nat) : Int) := by omega
 rw [e]
 have := i64_or_nat (x % 128) 128 (by omega) (by omega)
 rw [show (128 : Int) = ((128 : Nat) : Int) from rfl, this, Nat.or_comm, nat_join 7 128 (x % 128) (by decide) (by omega)]
 omega
theorem impl_putNum_loop (n : Nat) : ∀ b : List Int, b.length + n < 140737488355328 → Ev (fun k => impl_putNum.l0 k b (n : Int)) (b ++ encN n) := by
 induction n using Nat.strongRecOn with
 | _ n ih =>
  intro b hb
  by_cases h : 127 < n
  · refine Ev.up ((ih (n / 128) (by omega) (b ++ [((n % 128 + 128 : Nat) : Int)]) (by simp; omega)).cast (by rw [encN_big h, List.append_assoc]; rfl)) (fun k hk => ?_)
    simp only [impl_putNum.l0]
    rw [if_pos (by omega), if_pos (by omega), or_enc, show (n : Int) / 128 = ((n / 128 : Nat) : Int) from rfl]
    exact hk
  · refine Ev.up (Ev.now (b ++ encN n)) (fun k _ => ?_)
    simp only [impl_putNum.l0]
    rw [if_neg (by omega), if_pos (by omega), encN_small (by omega), show (n : Int) % 256 = n by omega]
theorem impl_putNum_ev (b : List Int) (n : Int) (hb : b.length ≤ 100000000000000) : Ev (fun k => impl_putNum.f k b n) (putNumM b n) := by
 have h := impl_putNum_loop (clampN n) b (by have := clampN_le n; omega)
 have e : mx 0 (mn n 1000000000) = (clampN n : Int) := by
  unfold mx mn clampN
  repeat' split
  all_goals omega
 refine h.congr (fun k => ?_)
 unfold impl_putNum.f
 rw [e]
theorem clone_ev (b : List Int) (hb : b.length ≤ 100000000000000) : slices_Clone_byte_byte.f b = some b := by
 unfold slices_Clone_byte_byte.f
 rw [if_pos (by omega)]
theorem impl_PutNum_ev (b : List Int) (n : Int) (hb : b.length ≤ 100000000000000) : Ev (fun k => impl_PutNum.f k b n) (putNumM b n) := by
 obtain ⟨K, hK⟩ := Ev.get (impl_putNum_ev b n hb)
 refine ⟨K, fun k hk => ?_⟩
 show impl_PutNum.f k b n = _
 unfold impl_PutNum.f
 rw [clone_ev b hb, Option.bind_some]
 simp only [hK k hk, Option.bind_some]
theorem impl_putText_ev (b : List Int) (s : ByteArray) (hb : b.length ≤ 100000000000000) (hs : s.size ≤ 10000000000000) : Ev (fun k => impl_putText.f k b s) (putTextM b s) := by
 obtain ⟨K, hK⟩ := Ev.get (impl_putNum_ev b s.size hb)
 refine ⟨K, fun k hk => ?_⟩
 show impl_putText.f k b s = _
 unfold impl_putText.f
 have hl := putNumM_len b s.size
 rw [hK k hk, Option.bind_some, if_pos (by omega)]
 rfl
theorem spec_PutNum_loop (n : Nat) : ∀ b : List Int, b.length + n < 140737488355328 → Ev (fun k => spec_PutNum.l0 k (n : Int) b) (b ++ encN n) := by
 induction n using Nat.strongRecOn with
 | _ n ih =>
  intro b hb
  by_cases h : 127 < n
  · refine Ev.up ((ih (n / 128) (by omega) (b ++ [((n % 128 + 128 : Nat) : Int)]) (by simp; omega)).cast (by rw [encN_big h, List.append_assoc]; rfl)) (fun k hk => ?_)
    simp only [spec_PutNum.l0]
    rw [if_pos (by omega), if_pos (by omega), or_enc', show (n : Int) / 128 = ((n / 128 : Nat) : Int) from rfl]
    exact hk
  · refine Ev.up (Ev.now (b ++ encN n)) (fun k _ => ?_)
    simp only [spec_PutNum.l0]
    rw [if_neg (by omega), if_pos (by omega), encN_small (by omega), show (n : Int) % 256 = n by omega]
theorem spec_PutNum_ev (b : List Int) (n : Int) (hb : b.length ≤ 100000000000000) : Ev (fun k => spec_PutNum.f k b n) (putNumM b n) := by
 have h := spec_PutNum_loop (clampN n) b (by have := clampN_le n; omega)
 have h1 : Ev (fun k => spec_PutNum.j1 k (clampN n : Int) b) (putNumM b n) := Ev.up h (fun k hk => by simp only [spec_PutNum.j1]; exact hk)
 have h0 : Ev (fun k => if n > 1000000000 then spec_PutNum.j0 k 1000000000 b else spec_PutNum.j0 k n b) (putNumM b n) := by
  by_cases c : n > 1000000000
  ·
   have e : (clampN n : Int) = 1000000000 := by unfold clampN; rw [if_pos c]; rfl
   rw [e] at h1
   refine (Ev.up (g := fun k => spec_PutNum.j0 k 1000000000 b) h1 (fun k hk => ?_)).congr (fun k => by rw [if_pos c])
   simp only [spec_PutNum.j0]
   rw [if_neg (by omega)]
   exact hk
  ·
   refine (Ev.up (g := fun k => spec_PutNum.j0 k n b) h1 (fun k hk => ?_)).congr (fun k => by rw [if_neg c])
   simp only [spec_PutNum.j0]
   by_cases c2 : n < 0
   · have e : (clampN n : Int) = 0 := by unfold clampN; rw [if_neg c, if_pos c2]; rfl
     rw [e] at hk
     rw [if_pos c2]
     exact hk
   · have e : (clampN n : Int) = n := by unfold clampN; rw [if_neg c, if_neg c2]; omega
     rw [e] at hk
     rw [if_neg c2]
     exact hk
 refine h0.congr (fun k => ?_)
 unfold spec_PutNum.f
 simp only [Option.bind_some, List.nil_append, List.length_nil]
 rw [if_pos (by omega)]
theorem spec_PutText_ev (b : List Int) (s : ByteArray) (hb : b.length ≤ 100000000000000) (hs : s.size ≤ 10000000000000) : Ev (fun k => spec_PutText.f k b s) (putTextM b s) := by
 obtain ⟨K, hK⟩ := Ev.get (spec_PutNum_ev b s.size hb)
 refine ⟨K, fun k hk => ?_⟩
 show spec_PutText.f k b s = _
 unfold spec_PutText.f
 have hl := putNumM_len b s.size
 rw [hK k hk, Option.bind_some, if_pos (by omega)]
 rfl
end Go.Proofs.Ytgmfhchhbidlnaa.P
/- What is hashed of bytes, with what is laid behind them: the program's and the reference's answer what the model answers. No condition but bounds on lengths. -/
namespace Go.Proofs.Ytgmfhchhbidlnaa.P
open Go.RowKit Go.Proofs.YtgmfhchhbidlnaaW.PrintWords Go.Proofs.YtgmfhchhbidlnaaW.PrintLast Go.Proofs.YtgmfhchhbidlnaaW.PrintMore
set_option linter.unusedVariables false
set_option linter.unusedSimpArgs false
def lenM (n : Int) : Nat → List Int
 | 0 => []
 | i + 1 => (n / 2 ^ (8 * i)) % 256 :: lenM n i
def zerosM (n : Nat) : Nat := (119 - n % 64) % 64
def padM (l : List Int) : List Int := l ++ [128] ++ List.replicate (zerosM l.length) 0 ++ lenM (8 * (l.length : Int)) 8
theorem lenM_length (n : Int) (i : Nat) : (lenM n i).length = i := by
 induction i with
 | zero => rfl
 | succ i ih => simp [lenM, ih]
theorem lenM_by (n : Int) (i : Nat) : By (lenM n i) := by
 induction i with
 | zero => exact By.nil
 | succ i ih => exact By.app (a := [_]) (By.one (by omega) (by omega)) ih
theorem padM_by {l : List Int} (h : By l) : By (padM l) := by
 refine By.app (By.app (By.app h (By.one (by omega) (by omega))) (fun x hx => ?_)) (lenM_by _ _)
 rw [List.eq_of_mem_replicate hx]
 omega
theorem padM_length (l : List Int) : (padM l).length = l.length + 1 + zerosM l.length + 8 := by
 simp [padM, lenM_length]
 omega
theorem padM_mod (l : List Int) : (padM l).length % 64 = 0 := by
 rw [padM_length]
 unfold zerosM
 omega
theorem padM_len_le (l : List Int) : (padM l).length ≤ l.length + 72 := by
 rw [padM_length]
 unfold zerosM
 omega
theorem replicate_snoc {α : Type} (j : Nat) (x : α) : List.replicate j x ++ [x] = List.replicate (j + 1) x := by
 rw [List.replicate_succ', ]
theorem spec_Padded_l1 (n : Int) : ∀ (i : Nat) (x : List Int), i ≤ 8 → x.length + i ≤ 100000000000000 → Ev (fun k => spec_Padded.l1 k x n (8 * (i : Int) - 8)) (x ++ lenM n i) := by
 intro i
 induction i with
 | zero =>
  intro x hi hx
  refine Ev.up (Ev.now _) (fun k _ => ?_)
  simp only [spec_Padded.l1]
  rw [if_neg (by omega), lenM, List.append_nil]
 | succ i ih =>
  intro x hi hx
  have hs : (shr .i64 n (IntKind.u64.wrap (8 * ((i + 1 : Nat) : Int) - 8))) = n / 2 ^ (8 * i) := by
   rw [IntKind.wrap_u64, show (8 * ((i + 1 : Nat) : Int) - 8) % 18446744073709551616 = ((8 * i : Nat) : Int) by omega]
   unfold shr
   rw [Int.toNat_natCast, Nat.min_eq_left (by simp only [IntKind.bits]; omega)]
  refine Ev.up ((ih (x ++ [(n / 2 ^ (8 * i)) % 256]) (by omega) (by simp; omega)).cast (q := x ++ lenM n (i + 1)) (by rw [lenM, List.append_assoc]; rfl)) (fun k hk => ?_)
  simp only [spec_Padded.l1]
  have hu : 0 ≤ IntKind.u64.wrap (8 * ((i + 1 : Nat) : Int) - 8) := by rw [IntKind.wrap_u64]; exact Int.emod_nonneg _ (by decide)
  rw [if_pos (by omega), if_pos hu, if_pos (by omega), hs, w64 (by omega) (by omega)]
  rw [show (8 * ((i + 1 : Nat) : Int) - 8 - 8) = 8 * (i : Int) - 8 by omega]
  exact hk
theorem spec_Padded_l0 (l : List Int) (hl : l.length ≤ 10000000000000) : ∀ d j : Nat, zerosM l.length - j = d → j ≤ zerosM l.length →
 Ev (fun k => spec_Padded.l0 k l (l ++ [128] ++ List.replicate j 0)) (padM l) := by
 intro d
 induction d with
 | zero =>
  intro j hd hj
  obtain rfl : j = zerosM l.length := by omega
  refine Ev.up ((spec_Padded_l1 (8 * (l.length : Int)) 8 (l ++ [128] ++ List.replicate (zerosM l.length) 0) (by omega) (by simp; unfold zerosM; omega)).cast (q := padM l) rfl) (fun k hk => ?_)
  simp only [spec_Padded.l0]
  rw [if_pos (by simp; unfold zerosM; omega), w64 (by omega) (by omega), Int.mul_comm (l.length : Int) 8]
  exact hk
 | succ d ih =>
  intro j hd hj
  refine Ev.up (ih (j + 1) (by omega) (by omega)) (fun k hk => ?_)
  simp only [spec_Padded.l0]
  rw [if_neg (by simp; unfold zerosM at hj hd; omega), if_pos (by simp; unfold zerosM at hj; omega), List.append_assoc, replicate_snoc]
  exact hk
theorem spec_Padded_ev (l : List Int) (hl : l.length ≤ 10000000000000) : Ev (fun k => spec_Padded.f k l) (padM l) := by
 refine (spec_Padded_l0 l hl _ 0 rfl (by omega)).congr (fun k => ?_)
 unfold spec_Padded.f
 simp only [Option.bind_some, List.nil_append, List.length_nil]
 rw [if_pos (by omega), if_pos (by omega)]
 simp
theorem impl_Padded_l1 (n : Int) : ∀ (i : Nat) (x : List Int), i ≤ 8 → x.length + i ≤ 100000000000000 → Ev (fun k => impl_Padded.l1 k x n ((i : Int) - 1)) (x ++ lenM n i) := by
 intro i
 induction i with
 | zero =>
  intro x hi hx
  refine Ev.up (Ev.now _) (fun k _ => ?_)
  simp only [impl_Padded.l1]
  rw [if_neg (by omega), lenM, List.append_nil]
 | succ i ih =>
  intro x hi hx
  have hs : (shr .i64 n (IntKind.u64.wrap (wrap64 (8 * (((i + 1 : Nat) : Int) - 1))))) = n / 2 ^ (8 * i) := by
   rw [w64 (by omega) (by omega), IntKind.wrap_u64, show (8 * (((i + 1 : Nat) : Int) - 1)) % 18446744073709551616 = ((8 * i : Nat) : Int) by omega]
   unfold shr
   rw [Int.toNat_natCast, Nat.min_eq_left (by simp only [IntKind.bits]; omega)]
  refine Ev.up ((ih (x ++ [(n / 2 ^ (8 * i)) % 256]) (by omega) (by simp; omega)).cast (q := x ++ lenM n (i + 1)) (by rw [lenM, List.append_assoc]; rfl)) (fun k hk => ?_)
  simp only [impl_Padded.l1]
  have hu : 0 ≤ IntKind.u64.wrap (wrap64 (8 * (((i + 1 : Nat) : Int) - 1))) := by rw [IntKind.wrap_u64]; exact Int.emod_nonneg _ (by decide)
  rw [if_pos (by omega), if_pos hu, if_pos (by omega), hs, w64 (by omega) (by omega)]
  rw [show (((i + 1 : Nat) : Int) - 1 - 1) = (i : Int) - 1 by omega]
  exact hk
theorem impl_Padded_l0 (l : List Int) (hl : l.length ≤ 10000000000000) : ∀ d j : Nat, zerosM l.length - j = d → j ≤ zerosM l.length →
 Ev (fun k => impl_Padded.l0 k l (l ++ [128] ++ List.replicate j 0)) (padM l) := by
 intro d
 induction d with
 | zero =>
  intro j hd hj
  obtain rfl : j = zerosM l.length := by omega
  refine Ev.up ((impl_Padded_l1 (8 * (l.length : Int)) 8 (l ++ [128] ++ List.replicate (zerosM l.length) 0) (by omega) (by simp; unfold zerosM; omega)).cast (q := padM l) rfl) (fun k hk => ?_)
  simp only [impl_Padded.l0]
  have hz : ((l ++ [128] ++ List.replicate (zerosM l.length) (0 : Int)).length : Int) = l.length + 1 + zerosM l.length := by simp; omega
  have hz2 : (zerosM l.length : Int) = ((119 - l.length % 64) % 64 : Nat) := rfl
  rw [hz, w64 (by omega) (by omega), Int.tmod_eq_emod_of_nonneg (by omega), if_pos (by omega), w64 (by omega) (by omega)]
  exact hk
 | succ d ih =>
  intro j hd hj
  refine Ev.up (ih (j + 1) (by omega) (by omega)) (fun k hk => ?_)
  simp only [impl_Padded.l0]
  have hz : ((l ++ [128] ++ List.replicate j (0 : Int)).length : Int) = l.length + 1 + j := by simp; omega
  have hz2 : zerosM l.length = ((119 - l.length % 64) % 64 : Nat) := rfl
  rw [hz, w64 (by omega) (by omega), Int.tmod_eq_emod_of_nonneg (by omega), if_neg (by omega), if_pos (by simp; omega), List.append_assoc, replicate_snoc]
  exact hk
theorem impl_Padded_ev (l : List Int) (hl : l.length ≤ 10000000000000) : Ev (fun k => impl_Padded.f k l) (padM l) := by
 refine (impl_Padded_l0 l hl _ 0 rfl (by omega)).congr (fun k => ?_)
 unfold impl_Padded.f slices_Clone_byte_byte.f
 rw [if_pos (by omega), Option.bind_some, if_pos (by omega)]
 simp
end Go.Proofs.Ytgmfhchhbidlnaa.P
/- What is hashed: the reference's digest answers what the program's answers. No condition but bounds on lengths. -/
namespace Go.Proofs.Ytgmfhchhbidlnaa.P
open Go.RowKit Go.Proofs.YtgmfhchhbidlnaaW.PrintWords Go.Proofs.YtgmfhchhbidlnaaW.PrintLast Go.Proofs.YtgmfhchhbidlnaaW.PrintMore
set_option linter.unusedVariables false
set_option linter.unusedSimpArgs false
def W32 (x : Int) : Prop := 0 ≤ x ∧ x < 4294967296
def Wd (l : List Int) : Prop := ∀ x ∈ l, W32 x
theorem Wd.rd {l : List Int} (h : Wd l) (i : Int) : W32 (rd l i) := by
 unfold Go.Proofs.YtgmfhchhbidlnaaW.PrintWords.rd
 rw [List.getD_eq_getElem?_getD]
 by_cases hi : i.toNat < l.length
 · rw [List.getElem?_eq_getElem hi]
   exact h _ (List.getElem_mem hi)
 · rw [List.getElem?_eq_none (by omega)]
   exact ⟨by simp, by simp⟩
theorem W32.nat {x : Int} (h : W32 x) : ∃ n : Nat, x = (n : Int) ∧ n < 4294967296 := ⟨x.toNat, by have := h.1; omega, by have := h.2; omega⟩
theorem w32_mod (x : Int) : W32 (x % 4294967296) := ⟨by omega, by omega⟩
theorem ofInt32 (a : Nat) (ha : a < 4294967296) : (BitVec.ofInt 32 (a : Int)).toNat = a := by
 rw [BitVec.ofInt_natCast, BitVec.toNat_ofNat]
 exact Nat.mod_eq_of_lt (by omega)
theorem u32_wrap_small {n : Nat} (h1 : n < 4294967296) : IntKind.u32.wrap (n : Int) = n := by rw [IntKind.wrap_u32]; omega
theorem u32_and_nat (a b : Nat) (ha : a < 4294967296) (hb : b < 4294967296) : Go.bits .and .u32 (a : Int) (b : Int) = ((a &&& b : Nat) : Int) := by
 show IntKind.u32.wrap (((BitVec.ofInt 32 (a : Int)) &&& (BitVec.ofInt 32 (b : Int))).toNat : Int) = _
 rw [BitVec.toNat_and, ofInt32 a ha, ofInt32 b hb]
 have h_ : a &&& b ≤ a := Nat.and_le_left
 exact u32_wrap_small (by omega)
theorem u32_or_nat (a b : Nat) (ha : a < 4294967296) (hb : b < 4294967296) : Go.bits .or .u32 (a : Int) (b : Int) = ((a ||| b : Nat) : Int) := by
 show IntKind.u32.wrap (((BitVec.ofInt 32 (a : Int)) ||| (BitVec.ofInt 32 (b : Int))).toNat : Int) = _
 rw [BitVec.toNat_or, ofInt32 a ha, ofInt32 b hb]
 have h_ : a ||| b < 2 ^ 32 := Nat.or_lt_two_pow (by omega) (by omega)
 exact u32_wrap_small (by omega)
theorem u32_xor_nat (a b : Nat) (ha : a < 4294967296) (hb : b < 4294967296) : Go.bits .xor .u32 (a : Int) (b : Int) = ((a ^^^ b : Nat) : Int) := by
 show IntKind.u32.wrap (((BitVec.ofInt 32 (a : Int)) ^^^ (BitVec.ofInt 32 (b : Int))).toNat : Int) = _
 rw [BitVec.toNat_xor, ofInt32 a ha, ofInt32 b hb]
 have h_ : a ^^^ b < 2 ^ 32 := Nat.xor_lt_two_pow (by omega) (by omega)
 exact u32_wrap_small (by omega)
theorem and3264 {a b : Int} (ha : W32 a) (hb : W32 b) : Go.bits .and .i64 a b = Go.bits .and .u32 a b := by
 obtain ⟨m, rfl, hm⟩ := ha.nat
 obtain ⟨n, rfl, hn⟩ := hb.nat
 rw [u32_and_nat m n hm hn, i64_and_nat m n (by omega) (by omega)]
theorem or3264 {a b : Int} (ha : W32 a) (hb : W32 b) : Go.bits .or .i64 a b = Go.bits .or .u32 a b := by
 obtain ⟨m, rfl, hm⟩ := ha.nat
 obtain ⟨n, rfl, hn⟩ := hb.nat
 rw [u32_or_nat m n hm hn, i64_or_nat m n (by omega) (by omega)]
theorem xor3264 {a b : Int} (ha : W32 a) (hb : W32 b) : Go.bits .xor .i64 a b = Go.bits .xor .u32 a b := by
 obtain ⟨m, rfl, hm⟩ := ha.nat
 obtain ⟨n, rfl, hn⟩ := hb.nat
 rw [u32_xor_nat m n hm hn, i64_xor_nat m n (by omega) (by omega)]
theorem w32_and {a b : Int} (ha : W32 a) (hb : W32 b) : W32 (Go.bits .and .u32 a b) := by
 obtain ⟨m, rfl, hm⟩ := ha.nat
 obtain ⟨n, rfl, hn⟩ := hb.nat
 rw [u32_and_nat m n hm hn]
 have h_ : m &&& n ≤ m := Nat.and_le_left
 exact ⟨by omega, by omega⟩
theorem w32_or {a b : Int} (ha : W32 a) (hb : W32 b) : W32 (Go.bits .or .u32 a b) := by
 obtain ⟨m, rfl, hm⟩ := ha.nat
 obtain ⟨n, rfl, hn⟩ := hb.nat
 rw [u32_or_nat m n hm hn]
 have h_ : m ||| n < 2 ^ 32 := Nat.or_lt_two_pow (by omega) (by omega)
 exact ⟨by omega, by omega⟩
theorem w32_xor {a b : Int} (ha : W32 a) (hb : W32 b) : W32 (Go.bits .xor .u32 a b) := by
 obtain ⟨m, rfl, hm⟩ := ha.nat
 obtain ⟨n, rfl, hn⟩ := hb.nat
 rw [u32_xor_nat m n hm hn]
 have h_ : m ^^^ n < 2 ^ 32 := Nat.xor_lt_two_pow (by omega) (by omega)
 exact ⟨by omega, by omega⟩
theorem and_mask (x : Int) (h0 : 0 ≤ x) (h1 : x < 9223372036854775808) : Go.bits .and .i64 x 4294967295 = x % 4294967296 := by
 obtain ⟨n, rfl⟩ : ∃ n : Nat, x = (n : Int) := ⟨x.toNat, by omega⟩
 rw [show (4294967295 : Int) = ((4294967295 : Nat) : Int) from rfl, i64_and_nat n 4294967295 (by omega) (by omega), show (4294967295 : Nat) = 2 ^ 32 - 1 from rfl, Nat.and_two_pow_sub_one_eq_mod]
 omega
theorem max32 : IntKind.u32.max = 4294967295 := by decide
theorem w32_max : W32 IntKind.u32.max := by rw [max32]; exact ⟨by omega, by omega⟩
theorem w32_rotl {a : Int} (ha : W32 a) (n : Nat) : W32 (rotl a n) := by
 unfold rotl
 refine w32_or (w32_mod _) ?_
 have h0 := ha.1
 have h1 := ha.2
 exact ⟨Int.ediv_nonneg h0 (Int.pow_nonneg (by decide)), Int.lt_of_le_of_lt (Int.ediv_le_self _ h0) h1⟩
theorem w32_div {a : Int} (ha : W32 a) (n : Int) (hn : 0 < n) : W32 (a / n) := ⟨Int.ediv_nonneg ha.1 (by omega), Int.lt_of_le_of_lt (Int.ediv_le_self _ ha.1) ha.2⟩
theorem rd_take (l : List Int) (n j : Nat) (h : j < n) : rd (l.take n) (j : Int) = rd l (j : Int) := by
 unfold rd
 simp [List.getD_eq_getElem?_getD, List.getElem?_take, h]
theorem take_set (l : List Int) (i : Nat) (v : Int) (h : i < l.length) : (l.set i v).take (i + 1) = l.take i ++ [v] := by
 rw [List.take_succ_eq_append_getElem (by simpa using h), List.getElem_set_self, List.take_set, List.set_eq_of_length_le (by rw [List.length_take]; omega)]
theorem be4_w32 {b : List Int} (hb : By b) (i : Nat) : W32 (be4 b i) := by
 unfold be4
 exact w32_or (w32_or (w32_or (w32_mod _) (w32_mod _)) (w32_mod _)) (w32_mod _)
theorem wnext_w32 (l : List Int) (i : Nat) : W32 (wnext l i) := w32_mod _
theorem w16_wd {b : List Int} (hb : By b) : Wd (w16 b 16) := by
 intro x hx
 unfold w16 at hx
 rcases List.mem_append.1 hx with h | h
 · obtain ⟨i, _, rfl⟩ := List.mem_map.1 h
   exact be4_w32 hb i
 · rw [List.eq_of_mem_replicate h]
   exact ⟨by omega, by omega⟩
theorem Wd.set {l : List Int} (h : Wd l) (i : Nat) {v : Int} (hv : W32 v) : Wd (l.set i v) := fun x hx => by
 rcases List.mem_or_eq_of_mem_set hx with h1 | h1
 · exact h x h1
 · rw [h1]; exact hv
theorem wrow_wd {b : List Int} (hb : By b) : ∀ k, Wd (wrow b k)
 | 0 => w16_wd hb
 | k + 1 => (wrow_wd hb k).set _ (wnext_w32 _ _)
theorem tround_wd {v : List Int} (h : Wd v) (kk ww : Int) : Wd (tround v kk ww) := by
 intro x hx
 simp only [tround, List.mem_cons, List.not_mem_nil, or_false] at hx
 rcases hx with rfl | rfl | rfl | rfl | rfl | rfl | rfl | rfl
 · exact w32_mod _
 · exact h.rd _
 · exact h.rd _
 · exact h.rd _
 · exact w32_mod _
 · exact h.rd _
 · exact h.rd _
 · exact h.rd _
theorem vrow_wd {h : List Int} (hh : Wd h) (ws : List Int) : ∀ i, Wd (vrow h ws i)
 | 0 => hh
 | i + 1 => tround_wd (vrow_wd hh ws i) _ _
theorem hrow_wd {h : List Int} (hh : Wd h) (v : List Int) : ∀ i, Wd (hrow h v i)
 | 0 => hh
 | i + 1 => (hrow_wd hh v i).set _ (w32_mod _)
theorem kList_wd : Wd kList := by
 have h : kList.all (fun x => decide (0 ≤ x) && decide (x < 4294967296)) = true := by decide
 intro x hx
 have := List.all_eq_true.1 h x hx
 simp at this
 exact this
theorem h0List_wd : Wd h0List := by
 have h : h0List.all (fun x => decide (0 ≤ x) && decide (x < 4294967296)) = true := by decide
 intro x hx
 have := List.all_eq_true.1 h x hx
 simp at this
 exact this
theorem turn_eq {x : Int} (h : W32 x) (n : Nat) (h1 : 1 ≤ n) (h2 : n ≤ 31) : spec_l2Turn.f x (n : Int) = some (rotl x (32 - n)) := by
 obtain ⟨m, rfl, hm⟩ := h.nat
 have e1 : IntKind.u64.wrap (n : Int) = n := by rw [IntKind.wrap_u64]; omega
 have e2 : IntKind.u64.wrap (wrap64 (32 - (n : Int))) = ((32 - n : Nat) : Int) := by rw [w64 (by omega) (by omega), IntKind.wrap_u64]; omega
 unfold spec_l2Turn.f
 rw [e1, e2, if_pos (by omega), if_pos (by omega)]
 congr 1
 have hs : shr .i64 (m : Int) (n : Int) = ((m / 2 ^ n : Nat) : Int) := by
  unfold shr
  rw [Int.toNat_natCast, Nat.min_eq_left (by simp only [IntKind.bits]; omega)]
  simp
 have hp : (2 : Nat) ^ (32 - n) ≤ 2 ^ 31 := Nat.pow_le_pow_right (by decide) (by omega)
 have hlt : m * 2 ^ (32 - n) < 9223372036854775808 := by
  have : m * 2 ^ (32 - n) ≤ m * 2 ^ 31 := Nat.mul_le_mul_left _ hp
  omega
 have hl : shl .i64 (m : Int) ((32 - n : Nat) : Int) = ((m * 2 ^ (32 - n) : Nat) : Int) := by
  unfold shl
  rw [Int.toNat_natCast, Nat.min_eq_left (by simp only [IntKind.bits]; omega)]
  have e : (m : Int) * 2 ^ (32 - n) = ((m * 2 ^ (32 - n) : Nat) : Int) := by simp
  rw [e]
  exact i64_wrap_small (by omega) (by omega)
 have hd : m / 2 ^ n ≤ m := Nat.div_le_self _ _
 rw [hs, hl, i64_or_nat _ _ (by omega) (by omega), and_mask _ (by omega) (by
  have h_ : (m / 2 ^ n) ||| (m * 2 ^ (32 - n)) < 2 ^ 63 := Nat.or_lt_two_pow (by omega) (by omega)
  omega)]
 unfold rotl
 rw [show 32 - (32 - n) = n by omega]
 have e3 : (m : Int) * 2 ^ (32 - n) % 4294967296 = ((m * 2 ^ (32 - n) % 4294967296 : Nat) : Int) := by simp
 have e4 : (m : Int) / 2 ^ n = ((m / 2 ^ n : Nat) : Int) := by simp
 rw [e3, e4, u32_or_nat _ _ (Nat.mod_lt _ (by decide)) (by omega)]
 have e5 : ((m / 2 ^ n) ||| (m * 2 ^ (32 - n))) % 2 ^ 32 = (m / 2 ^ n) % 2 ^ 32 ||| (m * 2 ^ (32 - n)) % 2 ^ 32 := Nat.or_mod_two_pow
 have e6 : (m / 2 ^ n) % 2 ^ 32 = m / 2 ^ n := Nat.mod_eq_of_lt (by omega)
 have e7 : (2 : Nat) ^ 32 = 4294967296 := by decide
 rw [e6, e7] at e5
 rw [Nat.or_comm (m * 2 ^ (32 - n) % 4294967296), ← e5]
 generalize m / 2 ^ n ||| m * 2 ^ (32 - n) = A
 omega
theorem l2Words_l1 {b : List Int} (hb : By b) : ∀ d k : Nat, k + d = 48 → Ev (fun q => spec_l2Words.l1 q ((wrow b k).take (16 + k)) ((16 + k : Nat) : Int)) (wrow b 48) := by
 intro d
 induction d with
 | zero =>
  intro k hk
  obtain rfl : k = 48 := by omega
  refine Ev.up (Ev.now _) (fun q _ => ?_)
  simp only [spec_l2Words.l1]
  rw [if_neg (by omega), List.take_of_length_le (by rw [wrow_length]; omega)]
 | succ d ih =>
  intro k hk
  have hw := wrow_wd hb k
  have hl : ((wrow b k).take (16 + k)).length = 16 + k := by rw [List.length_take, wrow_length]; omega
  have hn : (wrow b (k + 1)).take (16 + (k + 1)) = (wrow b k).take (16 + k) ++ [wnext (wrow b k) (16 + k)] := take_set (wrow b k) (16 + k) _ (by rw [wrow_length]; omega)
  refine Ev.up (ih (k + 1) (by omega)) (fun q hq => ?_)
  rw [hn] at hq
  simp only [spec_l2Words.l1]
  have r1 := rd_take (wrow b k) (16 + k) (16 + k - 15) (by omega)
  have r2 := rd_take (wrow b k) (16 + k) (16 + k - 2) (by omega)
  have r3 := rd_take (wrow b k) (16 + k) (16 + k - 16) (by omega)
  have r4 := rd_take (wrow b k) (16 + k) (16 + k - 7) (by omega)
  have i1 : wrap64 (((16 + k : Nat) : Int) - 15) = ((16 + k - 15 : Nat) : Int) := by rw [w64 (by omega) (by omega)]; omega
  have i2 : wrap64 (((16 + k : Nat) : Int) - 2) = ((16 + k - 2 : Nat) : Int) := by rw [w64 (by omega) (by omega)]; omega
  have i3 : wrap64 (((16 + k : Nat) : Int) - 16) = ((16 + k - 16 : Nat) : Int) := by rw [w64 (by omega) (by omega)]; omega
  have i4 : wrap64 (((16 + k : Nat) : Int) - 7) = ((16 + k - 7 : Nat) : Int) := by rw [w64 (by omega) (by omega)]; omega
  have hx := hw.rd ((16 + k - 15 : Nat) : Int)
  have hy := hw.rd ((16 + k - 2 : Nat) : Int)
  have hz := hw.rd ((16 + k - 16 : Nat) : Int)
  have hv := hw.rd ((16 + k - 7 : Nat) : Int)
  rw [i1, i2, i3, i4, r1, r2, r3, r4, hl]
  have t1 : spec_l2Turn.f (rd (wrow b k) ((16 + k - 15 : Nat) : Int)) 7 = some _ := turn_eq hx 7 (by omega) (by omega)
  have t2 : spec_l2Turn.f (rd (wrow b k) ((16 + k - 15 : Nat) : Int)) 18 = some _ := turn_eq hx 18 (by omega) (by omega)
  have t3 : spec_l2Turn.f (rd (wrow b k) ((16 + k - 2 : Nat) : Int)) 17 = some _ := turn_eq hy 17 (by omega) (by omega)
  have t4 : spec_l2Turn.f (rd (wrow b k) ((16 + k - 2 : Nat) : Int)) 19 = some _ := turn_eq hy 19 (by omega) (by omega)
  rw [if_pos (by omega), if_pos (by omega), if_pos (by omega), if_pos (by omega), if_pos (by omega), t1, Option.bind_some, t2, Option.bind_some, t3, Option.bind_some, t4, Option.bind_some,
   if_pos (by omega), if_pos (by omega), if_pos (by omega), if_pos (by omega), if_pos (by omega)]
  rw [w64 (x := ((16 + k : Nat) : Int) + 1) (by omega) (by omega)]
  have q1 := w32_rotl hx 25
  have q2 := w32_rotl hx 14
  have q3 := w32_rotl hy 15
  have q4 := w32_rotl hy 13
  have q5 := w32_div hx 8 (by omega)
  have q6 := w32_div hy 1024 (by omega)
  have s1 := w32_xor (w32_xor q1 q2) q5
  have s2 := w32_xor (w32_xor q3 q4) q6
  rw [xor3264 q1 q2, xor3264 (w32_xor q1 q2) q5, xor3264 q3 q4, xor3264 (w32_xor q3 q4) q6]
  have ev : Go.bits .and .i64 (wrap64 ((wrap64 ((wrap64 ((rd (wrow b k) ((16 + k - 16 : Nat) : Int)) + (Go.bits .xor .u32 (Go.bits .xor .u32 (rotl (rd (wrow b k) ((16 + k - 15 : Nat) : Int)) 25) (rotl (rd (wrow b k) ((16 + k - 15 : Nat) : Int)) 14)) ((rd (wrow b k) ((16 + k - 15 : Nat) : Int)) / 8)))) + (rd (wrow b k) ((16 + k - 7 : Nat) : Int)))) + (Go.bits .xor .u32 (Go.bits .xor .u32 (rotl (rd (wrow b k) ((16 + k - 2 : Nat) : Int)) 15) (rotl (rd (wrow b k) ((16 + k - 2 : Nat) : Int)) 13)) ((rd (wrow b k) ((16 + k - 2 : Nat) : Int)) / 1024)))) 4294967295 = wnext (wrow b k) (16 + k) := by
   obtain ⟨a1, a2⟩ := s1
   obtain ⟨b1, b2⟩ := s2
   obtain ⟨c1, c2⟩ := hz
   obtain ⟨d1, d2⟩ := hv
   unfold wnext
   generalize Go.bits .xor .u32 (Go.bits .xor .u32 (rotl (rd (wrow b k) ((16 + k - 15 : Nat) : Int)) 25) (rotl (rd (wrow b k) ((16 + k - 15 : Nat) : Int)) 14)) ((rd (wrow b k) ((16 + k - 15 : Nat) : Int)) / 8) = S at *
   generalize Go.bits .xor .u32 (Go.bits .xor .u32 (rotl (rd (wrow b k) ((16 + k - 2 : Nat) : Int)) 15) (rotl (rd (wrow b k) ((16 + k - 2 : Nat) : Int)) 13)) ((rd (wrow b k) ((16 + k - 2 : Nat) : Int)) / 1024) = T at *
   rw [w64 (x := rd (wrow b k) ((16 + k - 16 : Nat) : Int) + S) (by omega) (by omega), w64 (x := rd (wrow b k) ((16 + k - 16 : Nat) : Int) + S + _) (by omega) (by omega), w64 (x := rd (wrow b k) ((16 + k - 16 : Nat) : Int) + S + _ + T) (by omega) (by omega), and_mask _ (by omega) (by omega)]
  rw [ev]
  exact hq
theorem l2Words_l0 {b : List Int} (hb : By b) (h64 : b.length = 64) : ∀ d i : Nat, i + d = 16 → Ev (fun q => spec_l2Words.l0 q b ((List.range i).map (be4 b)) (i : Int)) (wrow b 48) := by
 intro d
 induction d with
 | zero =>
  intro i hi
  obtain rfl : i = 16 := by omega
  refine Ev.up (l2Words_l1 hb 48 0 rfl) (fun q hq => ?_)
  simp only [spec_l2Words.l0]
  rw [if_neg (by omega)]
  have e : (wrow b 0).take (16 + 0) = (List.range 16).map (be4 b) := by
   show ((List.range 16).map (be4 b) ++ List.replicate (64 - 16) 0).take 16 = _
   rw [List.take_append_of_le_length (by simp), List.take_of_length_le (by simp)]
  rw [e] at hq
  exact hq
 | succ d ih =>
  intro i hi
  refine Ev.up (ih (i + 1) (by omega)) (fun q hq => ?_)
  simp only [spec_l2Words.l0]
  have i1 : wrap64 (4 * (i : Int)) = ((4 * i : Nat) : Int) := by rw [w64 (by omega) (by omega)]; omega
  have i2 : wrap64 (((4 * i : Nat) : Int) + 1) = ((4 * i + 1 : Nat) : Int) := by rw [w64 (by omega) (by omega)]; omega
  have i3 : wrap64 (((4 * i : Nat) : Int) + 2) = ((4 * i + 2 : Nat) : Int) := by rw [w64 (by omega) (by omega)]; omega
  have i4 : wrap64 (((4 * i : Nat) : Int) + 3) = ((4 * i + 3 : Nat) : Int) := by rw [w64 (by omega) (by omega)]; omega
  rw [i1, i2, i3, i4, if_pos (by omega), if_pos (by omega), if_pos (by omega), if_pos (by omega), if_pos (by omega), if_pos (by omega), if_pos (by omega), if_pos (by omega), if_pos (by omega), if_pos (by simp; omega)]
  rw [w64 (x := (i : Int) + 1) (by omega) (by omega)]
  have c0 := hb.rd ((4 * i : Nat) : Int)
  have c1 := hb.rd ((4 * i + 1 : Nat) : Int)
  have c2 := hb.rd ((4 * i + 2 : Nat) : Int)
  have c3 := hb.rd ((4 * i + 3 : Nat) : Int)
  have ev : Go.bits .or .i64 (Go.bits .or .i64 (Go.bits .or .i64 (wrap64 ((wrap64 (rd b ((4 * i : Nat) : Int))) * 16777216)) (wrap64 ((wrap64 (rd b ((4 * i + 1 : Nat) : Int))) * 65536))) (wrap64 ((wrap64 (rd b ((4 * i + 2 : Nat) : Int))) * 256))) (wrap64 (rd b ((4 * i + 3 : Nat) : Int))) = be4 b i := by
   unfold be4
   generalize rd b ((4 * i : Nat) : Int) = x0 at *
   generalize rd b ((4 * i + 1 : Nat) : Int) = x1 at *
   generalize rd b ((4 * i + 2 : Nat) : Int) = x2 at *
   generalize rd b ((4 * i + 3 : Nat) : Int) = x3 at *
   have e0 : wrap64 (wrap64 x0 * 16777216) = x0 % 4294967296 * 16777216 % 4294967296 := by rw [w64 (x := x0) (by omega) (by omega), w64 (by omega) (by omega)]; omega
   have e1 : wrap64 (wrap64 x1 * 65536) = x1 % 4294967296 * 65536 % 4294967296 := by rw [w64 (x := x1) (by omega) (by omega), w64 (by omega) (by omega)]; omega
   have e2 : wrap64 (wrap64 x2 * 256) = x2 % 4294967296 * 256 % 4294967296 := by rw [w64 (x := x2) (by omega) (by omega), w64 (by omega) (by omega)]; omega
   have e3 : wrap64 x3 = x3 % 4294967296 := by rw [w64 (x := x3) (by omega) (by omega)]; omega
   rw [e0, e1, e2, e3, or3264 (w32_mod _) (w32_mod _), or3264 (w32_or (w32_mod _) (w32_mod _)) (w32_mod _), or3264 (w32_or (w32_or (w32_mod _) (w32_mod _)) (w32_mod _)) (w32_mod _)]
  rw [ev]
  rw [List.range_succ, List.map_append] at hq
  exact hq
theorem l2Words_ev {b : List Int} (hb : By b) (h64 : b.length = 64) : Ev (fun k => spec_l2Words.f k b) (wrow b 48) :=
 (l2Words_l0 hb h64 16 0 rfl).congr (fun k => rfl)
theorem l2Block_l1 (h v : List Int) (h8 : h.length = 8) (v8 : v.length = 8) (hh : Wd h) (hv : Wd v) : Ev (fun q => spec_l2Block.l1 q h v 0) (hrow h v 8) := by
 obtain ⟨h0, h1, h2, h3, h4, h5, h6, h7, rfl⟩ := oct_of h8
 obtain ⟨v0, v1, v2, v3, v4, v5, v6, v7, rfl⟩ := oct_of v8
 have s : ∀ a ∈ [v0, v1, v2, v3, v4, v5, v6, v7], ∀ b ∈ [h0, h1, h2, h3, h4, h5, h6, h7], Go.bits .and .i64 (wrap64 (a + b)) 4294967295 = (b + a) % 4294967296 := by
  intro a ha b hb
  have x := hv a ha
  have y := hh b hb
  rw [w64 (by have := x.1; have := y.1; omega) (by have := x.2; have := y.2; omega), and_mask _ (by have := x.1; have := y.1; omega) (by have := x.2; have := y.2; omega), Int.add_comm]
 have st : ∀ (x : List Int) (i : Nat) (a b : Int), x.length = 8 → i < 8 → rd x (i : Int) = a → rd [h0, h1, h2, h3, h4, h5, h6, h7] (i : Int) = b → a ∈ [v0, v1, v2, v3, v4, v5, v6, v7] → b ∈ [h0, h1, h2, h3, h4, h5, h6, h7] → ∀ r,
  Ev (fun q => spec_l2Block.l1 q [h0, h1, h2, h3, h4, h5, h6, h7] (x.set i ((b + a) % 4294967296)) ((i + 1 : Nat) : Int)) r → Ev (fun q => spec_l2Block.l1 q [h0, h1, h2, h3, h4, h5, h6, h7] x (i : Int)) r := by
  intro x i a b hx hi ha hb h1 h2 r hr
  refine Ev.up hr (fun q hq => ?_)
  simp only [spec_l2Block.l1]
  rw [if_pos (by omega), if_pos (by omega), if_pos (by omega), if_pos (by simp; omega), ha, hb, s a h1 b h2, Int.toNat_natCast, w64 (by omega) (by omega)]
  exact hq
 refine st _ 0 v0 h0 rfl (by omega) rfl rfl (by simp) (by simp) _ ?_
 refine st _ 1 v1 h1 rfl (by omega) rfl rfl (by simp) (by simp) _ ?_
 refine st _ 2 v2 h2 rfl (by omega) rfl rfl (by simp) (by simp) _ ?_
 refine st _ 3 v3 h3 rfl (by omega) rfl rfl (by simp) (by simp) _ ?_
 refine st _ 4 v4 h4 rfl (by omega) rfl rfl (by simp) (by simp) _ ?_
 refine st _ 5 v5 h5 rfl (by omega) rfl rfl (by simp) (by simp) _ ?_
 refine st _ 6 v6 h6 rfl (by omega) rfl rfl (by simp) (by simp) _ ?_
 refine st _ 7 v7 h7 rfl (by omega) rfl rfl (by simp) (by simp) _ ?_
 refine Ev.up (Ev.now _) (fun q _ => ?_)
 simp only [spec_l2Block.l1]
 rw [if_neg (by decide)]
 rfl
theorem l2Block_l0 (h ws : List Int) (h8 : h.length = 8) (hh : Wd h) (hws : Wd ws) (w64l : ws.length = 64) : ∀ d i : Nat, i + d = 64 → Ev (fun q => spec_l2Block.l0 q h kList ws (vrow h ws i) (i : Int)) (hrow h (vrow h ws 64) 8) := by
 intro d
 induction d with
 | zero =>
  intro i hi
  obtain rfl : i = 64 := by omega
  refine Ev.up (l2Block_l1 h _ h8 (vrow_length h ws h8 64) hh (vrow_wd hh ws 64)) (fun q hq => ?_)
  simp only [spec_l2Block.l0]
  rw [if_neg (by omega)]
  exact hq
 | succ d ih =>
  intro i hi
  refine Ev.up (ih (i + 1) (by omega)) (fun q hq => ?_)
  have hr : vrow h ws (i + 1) = tround (vrow h ws i) (rd kList (i : Int)) (rd ws (i : Int)) := rfl
  rw [hr] at hq
  have hvw := vrow_wd hh ws i
  have hv8 := vrow_length h ws h8 i
  generalize vrow h ws i = v at *
  have hk := kList_wd.rd (i : Int)
  have hw := hws.rd (i : Int)
  have hkl : (kList.length : Int) = 64 := rfl
  have hwl : (ws.length : Int) = 64 := by omega
  have hvl : (v.length : Int) = 8 := by omega
  have e4 := hvw.rd 4
  have e0 := hvw.rd 0
  simp only [spec_l2Block.l0]
  have t1 : spec_l2Turn.f (rd v 4) 6 = some (rotl (rd v 4) 26) := turn_eq e4 6 (by omega) (by omega)
  have t2 : spec_l2Turn.f (rd v 4) 11 = some (rotl (rd v 4) 21) := turn_eq e4 11 (by omega) (by omega)
  have t3 : spec_l2Turn.f (rd v 4) 25 = some (rotl (rd v 4) 7) := turn_eq e4 25 (by omega) (by omega)
  have t4 : spec_l2Turn.f (rd v 0) 2 = some (rotl (rd v 0) 30) := turn_eq e0 2 (by omega) (by omega)
  have t5 : spec_l2Turn.f (rd v 0) 13 = some (rotl (rd v 0) 19) := turn_eq e0 13 (by omega) (by omega)
  have t6 : spec_l2Turn.f (rd v 0) 22 = some (rotl (rd v 0) 10) := turn_eq e0 22 (by omega) (by omega)
  rw [hvl, hkl, hwl, if_pos (by omega), if_pos (by omega), t1, Option.bind_some, t2, Option.bind_some, t3, Option.bind_some, if_pos (by omega), if_pos (by omega), if_pos (by omega), if_pos (by omega), if_pos (by omega), if_pos (by omega), if_pos (by omega), t4, Option.bind_some, t5, Option.bind_some, t6, Option.bind_some, if_pos (by omega), if_pos (by omega), if_pos (by omega)]
  rw [w64 (x := (i : Int) + 1) (by omega) (by omega)]
  have q1 := w32_rotl e4 26
  have q2 := w32_rotl e4 21
  have q3 := w32_rotl e4 7
  have q4 := w32_rotl e0 30
  have q5 := w32_rotl e0 19
  have q6 := w32_rotl e0 10
  have s1 := w32_xor (w32_xor q1 q2) q3
  have s0 := w32_xor (w32_xor q4 q5) q6
  have a1 := w32_and e4 (hvw.rd 5)
  have a2 := w32_xor w32_max e4
  have a3 := w32_and a2 (hvw.rd 6)
  have ch := w32_xor a1 a3
  have b1 := w32_and e0 (hvw.rd 1)
  have b2 := w32_and e0 (hvw.rd 2)
  have b3 := w32_and (hvw.rd 1) (hvw.rd 2)
  have b4 := w32_xor b1 b2
  have mj := w32_xor b4 b3
  have x1 : Go.bits .xor .i64 (Go.bits .xor .i64 (rotl (rd v 4) 26) (rotl (rd v 4) 21)) (rotl (rd v 4) 7) = Go.bits .xor .u32 (Go.bits .xor .u32 (rotl (rd v 4) 26) (rotl (rd v 4) 21)) (rotl (rd v 4) 7) := by rw [xor3264 q1 q2, xor3264 (w32_xor q1 q2) q3]
  have x2 : Go.bits .xor .i64 (Go.bits .xor .i64 (rotl (rd v 0) 30) (rotl (rd v 0) 19)) (rotl (rd v 0) 10) = Go.bits .xor .u32 (Go.bits .xor .u32 (rotl (rd v 0) 30) (rotl (rd v 0) 19)) (rotl (rd v 0) 10) := by rw [xor3264 q4 q5, xor3264 (w32_xor q4 q5) q6]
  have x3 : Go.bits .xor .i64 (Go.bits .and .i64 (rd v 4) (rd v 5)) (Go.bits .and .i64 (Go.bits .xor .i64 4294967295 (rd v 4)) (rd v 6)) = Go.bits .xor .u32 (Go.bits .and .u32 (rd v 4) (rd v 5)) (Go.bits .and .u32 (Go.bits .xor .u32 IntKind.u32.max (rd v 4)) (rd v 6)) := by
   rw [← max32, and3264 e4 (hvw.rd 5), xor3264 w32_max e4, and3264 a2 (hvw.rd 6), xor3264 a1 a3]
  have x4 : Go.bits .xor .i64 (Go.bits .xor .i64 (Go.bits .and .i64 (rd v 0) (rd v 1)) (Go.bits .and .i64 (rd v 0) (rd v 2))) (Go.bits .and .i64 (rd v 1) (rd v 2)) = Go.bits .xor .u32 (Go.bits .xor .u32 (Go.bits .and .u32 (rd v 0) (rd v 1)) (Go.bits .and .u32 (rd v 0) (rd v 2))) (Go.bits .and .u32 (rd v 1) (rd v 2)) := by
   rw [and3264 e0 (hvw.rd 1), and3264 e0 (hvw.rd 2), and3264 (hvw.rd 1) (hvw.rd 2), xor3264 b1 b2, xor3264 b4 b3]
  rw [x1, x2, x3, x4]
  have e3 := hvw.rd 3
  have e7 := hvw.rd 7
  have ht : t1of v (rd kList (i : Int)) (rd ws (i : Int)) = (rd v 7 + Go.bits .xor .u32 (Go.bits .xor .u32 (rotl (rd v 4) 26) (rotl (rd v 4) 21)) (rotl (rd v 4) 7) + Go.bits .xor .u32 (Go.bits .and .u32 (rd v 4) (rd v 5)) (Go.bits .and .u32 (Go.bits .xor .u32 IntKind.u32.max (rd v 4)) (rd v 6)) + rd kList (i : Int) + rd ws (i : Int)) % 4294967296 := by
   unfold t1of
   rw [Int.emod_add_emod]
  unfold tround at hq
  rw [ht] at hq
  generalize Go.bits .xor .u32 (Go.bits .xor .u32 (rotl (rd v 4) 26) (rotl (rd v 4) 21)) (rotl (rd v 4) 7) = S1 at *
  generalize Go.bits .xor .u32 (Go.bits .xor .u32 (rotl (rd v 0) 30) (rotl (rd v 0) 19)) (rotl (rd v 0) 10) = S0 at *
  generalize Go.bits .xor .u32 (Go.bits .and .u32 (rd v 4) (rd v 5)) (Go.bits .and .u32 (Go.bits .xor .u32 IntKind.u32.max (rd v 4)) (rd v 6)) = CH at *
  generalize Go.bits .xor .u32 (Go.bits .xor .u32 (Go.bits .and .u32 (rd v 0) (rd v 1)) (Go.bits .and .u32 (rd v 0) (rd v 2))) (Go.bits .and .u32 (rd v 1) (rd v 2)) = MJ at *
  generalize rd kList (i : Int) = kk at *
  generalize rd ws (i : Int) = ww at *
  obtain ⟨m1, m2⟩ := s1
  obtain ⟨m3, m4⟩ := s0
  obtain ⟨m5, m6⟩ := ch
  obtain ⟨m7, m8⟩ := mj
  obtain ⟨m9, m10⟩ := hk
  obtain ⟨m11, m12⟩ := hw
  obtain ⟨m13, m14⟩ := e7
  obtain ⟨m15, m16⟩ := e3
  have T : wrap64 ((wrap64 ((wrap64 ((wrap64 ((rd v 7) + S1)) + CH)) + kk)) + ww) = rd v 7 + S1 + CH + kk + ww := by
   rw [w64 (x := rd v 7 + S1) (by omega) (by omega), w64 (x := rd v 7 + S1 + CH) (by omega) (by omega), w64 (x := rd v 7 + S1 + CH + kk) (by omega) (by omega), w64 (by omega) (by omega)]
  rw [T, w64 (x := S0 + MJ) (by omega) (by omega), w64 (x := rd v 7 + S1 + CH + kk + ww + (S0 + MJ)) (by omega) (by omega), w64 (x := rd v 3 + _) (by omega) (by omega), and_mask _ (by omega) (by omega), and_mask _ (by omega) (by omega)]
  have u1 : (rd v 7 + S1 + CH + kk + ww + (S0 + MJ)) % 4294967296 = ((rd v 7 + S1 + CH + kk + ww) % 4294967296 + S0 + MJ) % 4294967296 := by omega
  have u2 : (rd v 3 + (rd v 7 + S1 + CH + kk + ww)) % 4294967296 = (rd v 3 + (rd v 7 + S1 + CH + kk + ww) % 4294967296) % 4294967296 := by omega
  rw [u1, u2]
  exact hq
theorem l2Block_ev {h b : List Int} (h8 : h.length = 8) (hh : Wd h) (hb : By b) (h64 : b.length = 64) : Ev (fun k => spec_l2Block.f k h b kList) (tblock h b) := by
 obtain ⟨K1, e1⟩ := Ev.get (l2Words_ev hb h64)
 obtain ⟨K2, e2⟩ := Ev.get (l2Block_l0 h (wrow b 48) h8 hh (wrow_wd hb 48) (wrow_length b 48) 64 0 rfl)
 refine ⟨K1 + K2, fun k hk => ?_⟩
 show spec_l2Block.f k h b kList = some (tblock h b)
 unfold spec_l2Block.f
 rw [e1 _ (by omega), Option.bind_some, Option.bind_some, if_pos (by simp; omega), List.nil_append]
 exact e2 k (by omega)
theorem tblock_wd {h b : List Int} (hh : Wd h) : Wd (tblock h b) := hrow_wd hh _ _
theorem dwords_wd (p : List Int) : ∀ k, Wd (dwords p k)
 | 0 => h0List_wd
 | k + 1 => by
  have := dwords_wd p k
  unfold dwords at this ⊢
  rw [List.range_succ, List.foldl_append]
  exact tblock_wd this
theorem dwords_succ (p : List Int) (k : Nat) : dwords p (k + 1) = tblock (dwords p k) ((p.take (64 * k + 64)).drop (64 * k)) := by
 unfold dwords
 rw [List.range_succ, List.foldl_append]
 rfl
def digB (l : List Int) : List Int := dbytes (dwords (padM l) ((padM l).length / 64))
def digM (l : List Int) : ByteArray := strOfNums (digB l)
theorem digB_length (l : List Int) : (digB l).length = 32 := by
 unfold digB
 obtain ⟨x0, x1, x2, x3, x4, x5, x6, x7, h⟩ := oct_of (dwords_length (padM l) ((padM l).length / 64))
 rw [h]
 rfl
theorem spec_Digest_l1 (h : List Int) (h8 : h.length = 8) : Ev (fun q => spec_Digest.l1 q h [] 0) (strOfNums (dbytes h)) := by
 obtain ⟨h0, h1, h2, h3, h4, h5, h6, h7, rfl⟩ := oct_of h8
 have st : ∀ (x : List Int) (i : Nat) (b : Int), x.length ≤ 40 → i < 8 → rd [h0, h1, h2, h3, h4, h5, h6, h7] (i : Int) = b → ∀ r,
  Ev (fun q => spec_Digest.l1 q [h0, h1, h2, h3, h4, h5, h6, h7] (x ++ [b / 16777216 % 256, b / 65536 % 256, b / 256 % 256, b % 256]) ((i + 1 : Nat) : Int)) r → Ev (fun q => spec_Digest.l1 q [h0, h1, h2, h3, h4, h5, h6, h7] x (i : Int)) r := by
  intro x i b hx hi hb r hr
  refine Ev.up hr (fun q hq => ?_)
  simp only [spec_Digest.l1]
  rw [if_pos (by omega), if_pos (by omega), if_pos (by simp; omega), hb, Option.bind_some, if_pos (by simp; omega), w64 (by omega) (by omega)]
  exact hq
 refine st _ 0 h0 (by simp) (by omega) rfl _ ?_
 refine st _ 1 h1 (by simp) (by omega) rfl _ ?_
 refine st _ 2 h2 (by simp) (by omega) rfl _ ?_
 refine st _ 3 h3 (by simp) (by omega) rfl _ ?_
 refine st _ 4 h4 (by simp) (by omega) rfl _ ?_
 refine st _ 5 h5 (by simp) (by omega) rfl _ ?_
 refine st _ 6 h6 (by simp) (by omega) rfl _ ?_
 refine st _ 7 h7 (by simp) (by omega) rfl _ ?_
 refine Ev.up (Ev.now _) (fun q _ => ?_)
 simp only [spec_Digest.l1]
 rw [if_neg (by decide)]
 rfl
theorem spec_Digest_l0 (p : List Int) (hp : By p) (m : Nat) (hm : p.length = 64 * m) (hl : p.length ≤ 100000000000000) : ∀ d i : Nat, i + d = m → Ev (fun q => spec_Digest.l0 q p (dwords p i) kList ((64 * i : Nat) : Int)) (strOfNums (dbytes (dwords p m))) := by
 intro d
 induction d with
 | zero =>
  intro i hi
  obtain rfl : i = m := by omega
  refine Ev.up (spec_Digest_l1 _ (dwords_length p i)) (fun q hq => ?_)
  simp only [spec_Digest.l0]
  rw [if_neg (by omega)]
  exact hq
 | succ d ih =>
  intro i hi
  have hb : By ((p.take (64 * i + 64)).drop (64 * i)) := fun x hx => hp x (List.mem_of_mem_take (List.mem_of_mem_drop hx))
  obtain ⟨K1, e1⟩ := Ev.get (l2Block_ev (dwords_length p i) (dwords_wd p i) hb (by rw [List.length_drop, List.length_take]; omega))
  obtain ⟨K2, e2⟩ := Ev.get (ih (i + 1) (by omega))
  refine Ev.up (f := fun q => if K1 + K2 ≤ q then some (strOfNums (dbytes (dwords p m))) else none) ⟨K1 + K2, fun q hq => if_pos hq⟩ (fun q hq => ?_)
  have hq' : K1 + K2 ≤ q := by
   apply Classical.byContradiction
   intro hn
   rw [if_neg hn] at hq
   cases hq
  simp only [spec_Digest.l0]
  have ew : wrap64 (((64 * i : Nat) : Int) + 64) = ((64 * i + 64 : Nat) : Int) := by rw [w64 (by omega) (by omega)]; omega
  rw [ew, if_pos (by omega), if_pos (by omega), if_pos (by omega), if_pos (by omega), Int.toNat_natCast, Int.toNat_natCast, e1 _ (by omega), Option.bind_some, ← dwords_succ]
  exact e2 q (by omega)
theorem spec_Digest_ev (l : List Int) (hb : By l) (hl : l.length ≤ 10000000000000) : Ev (fun k => spec_Digest.f k l) (digM l) := by
 have hp := padM_by hb
 have hm := padM_mod l
 have hle := padM_len_le l
 obtain ⟨K1, e1⟩ := Ev.get (spec_Padded_ev l hl)
 obtain ⟨K2, e2⟩ := Ev.get (spec_Digest_l0 (padM l) hp ((padM l).length / 64) (by omega) (by omega) _ 0 (Nat.zero_add _))
 refine ⟨K1 + K2, fun k hk => ?_⟩
 show spec_Digest.f k l = some (digM l)
 unfold spec_Digest.f
 rw [e1 _ (by omega), Option.bind_some]
 show spec_Digest.l0 k (padM l) h0List kList 0 = some (digM l)
 exact e2 k (by omega)
theorem impl_Digest_ev (l : List Int) (hl : l.length ≤ 10000000000000) : Ev (fun k => impl_Digest.f k l) (digM l) := by
 have hm := padM_mod l
 have hle := padM_len_le l
 have hlen := padM_length l
 obtain ⟨K1, e1⟩ := Ev.get (impl_Padded_ev l hl)
 refine ⟨K1, fun k hk => ?_⟩
 show impl_Digest.f k l = some (digM l)
 unfold impl_Digest.f dg_Digest.f
 rw [e1 _ hk, Option.bind_some, if_pos ⟨by omega, hm, by omega⟩]
 rfl
end Go.Proofs.Ytgmfhchhbidlnaa.P
/- The tree of digests over pairs: the program's and the reference's answer what the model answers. No condition but bounds on lengths. -/
namespace Go.Proofs.Ytgmfhchhbidlnaa.P
open Go.RowKit Go.Proofs.YtgmfhchhbidlnaaW.PrintWords Go.Proofs.YtgmfhchhbidlnaaW.PrintLast Go.Proofs.YtgmfhchhbidlnaaW.PrintMore
set_option linter.unusedVariables false
set_option linter.unusedSimpArgs false
theorem strOfNums_size (l : List Int) : (strOfNums l).size = l.length := by
 unfold strOfNums
 simp [ByteArray.size]
theorem digM_size (l : List Int) : (digM l).size = 32 := by
 unfold digM
 rw [strOfNums_size, digB_length]
def nodeB (a b : ByteArray) : List Int := [1] ++ bytesOf a ++ bytesOf b
def nodeM (a b : ByteArray) : ByteArray := digM (nodeB a b)
def leafB (a b : ByteArray) : List Int := putTextM (putTextM [0] a) b
def leafM (a b : ByteArray) : ByteArray := digM (leafB a b)
def topB (n : Int) (s : ByteArray) : List Int := putNumM [2] n ++ bytesOf s
theorem nodeB_by (a b : ByteArray) : By (nodeB a b) := By.app (By.app (By.one (by omega) (by omega)) (By.bytesOf _)) (By.bytesOf _)
theorem nodeB_length (a b : ByteArray) : (nodeB a b).length = a.size + b.size + 1 := by
 have h : (nodeB a b).length = 1 + (bytesOf a).length + (bytesOf b).length := by
  unfold nodeB
  rw [List.length_append, List.length_append]
  rfl
 rw [h, bytesOf_length, bytesOf_length]
 omega
theorem leafB_by (a b : ByteArray) : By (leafB a b) := putTextM_by (putTextM_by (By.one (by omega) (by omega)) _) _
theorem leafB_len (a b : ByteArray) : (leafB a b).length ≤ a.size + b.size + 11 := by
 have h1 := putTextM_len [0] a
 have h2 := putTextM_len (putTextM [0] a) b
 unfold leafB
 simp at h1
 omega
theorem topB_by (n : Int) (s : ByteArray) : By (topB n s) := By.app (putNumM_by (By.one (by omega) (by omega)) _) (By.bytesOf _)
theorem topB_len (n : Int) (s : ByteArray) : (topB n s).length ≤ s.size + 6 := by
 have h1 := putNumM_len [2] n
 unfold topB
 rw [List.length_append, bytesOf_length]
 simp at h1
 omega
theorem nodeM_size (a b : ByteArray) : (nodeM a b).size = 32 := digM_size _
theorem leafM_size (a b : ByteArray) : (leafM a b).size = 32 := digM_size _
theorem spec_l4Node_eq (a b : ByteArray) (ha : a.size ≤ 1000000000000) (hb : b.size ≤ 1000000000000) : spec_l4Node.f a b = some (nodeB a b) := by
 unfold spec_l4Node.f
 rw [Option.bind_some, if_pos (by simp; omega), Option.bind_some, if_pos (by simp [bytesOf_length]; omega)]
 rfl
theorem spec_NodeOf_ev (a b : ByteArray) (ha : a.size ≤ 1000000000000) (hb : b.size ≤ 1000000000000) : Ev (fun k => spec_NodeOf.f k a b) (nodeM a b) := by
 obtain ⟨K1, e1⟩ := Ev.get (spec_Digest_ev (nodeB a b) (nodeB_by a b) (by rw [nodeB_length]; omega))
 refine ⟨K1, fun k hk => ?_⟩
 show spec_NodeOf.f k a b = _
 unfold spec_NodeOf.f
 rw [spec_l4Node_eq a b ha hb, Option.bind_some, e1 _ hk, Option.bind_some]
 rfl
theorem impl_nodeBytes_eq (a b : ByteArray) (ha : a.size ≤ 1000000000000) (hb : b.size ≤ 1000000000000) : impl_nodeBytes.f a b = some (nodeB a b) := by
 unfold impl_nodeBytes.f
 rw [Option.bind_some, if_pos (by simp; omega), Option.bind_some, if_pos (by simp [bytesOf_length]; omega)]
 rfl
theorem impl_NodeOf_ev (a b : ByteArray) (ha : a.size ≤ 1000000000000) (hb : b.size ≤ 1000000000000) : Ev (fun k => impl_NodeOf.f k a b) (nodeM a b) := by
 obtain ⟨K1, e1⟩ := Ev.get (impl_Digest_ev (nodeB a b) (by rw [nodeB_length]; omega))
 refine ⟨K1, fun k hk => ?_⟩
 show impl_NodeOf.f k a b = _
 unfold impl_NodeOf.f
 rw [impl_nodeBytes_eq a b ha hb, Option.bind_some, e1 _ hk, Option.bind_some]
 rfl
theorem spec_l4Leaf_ev (a b : ByteArray) (ha : a.size ≤ 1000000000000) (hb : b.size ≤ 1000000000000) : Ev (fun k => spec_l4Leaf.f k a b) (leafB a b) := by
 have h1 := putTextM_len [0] a
 simp at h1
 obtain ⟨K1, e1⟩ := Ev.get (spec_PutText_ev [0] a (by simp) (by omega))
 obtain ⟨K2, e2⟩ := Ev.get (spec_PutText_ev (putTextM [0] a) b (by omega) (by omega))
 refine ⟨K1 + K2, fun k hk => ?_⟩
 show spec_l4Leaf.f k a b = _
 unfold spec_l4Leaf.f
 rw [e1 _ (by omega), Option.bind_some, e2 _ (by omega), Option.bind_some]
 rfl
theorem spec_LeafOf_ev (a b : ByteArray) (ha : a.size ≤ 1000000000000) (hb : b.size ≤ 1000000000000) : Ev (fun k => spec_LeafOf.f k a b) (leafM a b) := by
 have hl := leafB_len a b
 obtain ⟨K1, e1⟩ := Ev.get (spec_l4Leaf_ev a b ha hb)
 obtain ⟨K2, e2⟩ := Ev.get (spec_Digest_ev (leafB a b) (leafB_by a b) (by omega))
 refine ⟨K1 + K2, fun k hk => ?_⟩
 show spec_LeafOf.f k a b = _
 unfold spec_LeafOf.f
 rw [e1 _ (by omega), Option.bind_some, e2 _ (by omega), Option.bind_some]
 rfl
theorem impl_leafBytes_ev (a b : ByteArray) (ha : a.size ≤ 1000000000000) (hb : b.size ≤ 1000000000000) : Ev (fun k => impl_leafBytes.f k a b) (leafB a b) := by
 have h1 := putTextM_len [0] a
 simp at h1
 obtain ⟨K1, e1⟩ := Ev.get (impl_putText_ev [0] a (by simp) (by omega))
 obtain ⟨K2, e2⟩ := Ev.get (impl_putText_ev (putTextM [0] a) b (by omega) (by omega))
 refine ⟨K1 + K2, fun k hk => ?_⟩
 show impl_leafBytes.f k a b = _
 unfold impl_leafBytes.f
 rw [e1 _ (by omega), Option.bind_some, e2 _ (by omega), Option.bind_some]
 rfl
theorem impl_LeafOf_ev (a b : ByteArray) (ha : a.size ≤ 1000000000000) (hb : b.size ≤ 1000000000000) : Ev (fun k => impl_LeafOf.f k a b) (leafM a b) := by
 have hl := leafB_len a b
 obtain ⟨K1, e1⟩ := Ev.get (impl_leafBytes_ev a b ha hb)
 obtain ⟨K2, e2⟩ := Ev.get (impl_Digest_ev (leafB a b) (by omega))
 refine ⟨K1 + K2, fun k hk => ?_⟩
 show impl_LeafOf.f k a b = _
 unfold impl_LeafOf.f
 rw [e1 _ (by omega), Option.bind_some, e2 _ (by omega), Option.bind_some]
 rfl
def halfG (x n : Nat) : Nat := if h : 0 < x ∧ 2 * x < n then halfG (2 * x) n else x
termination_by n - x
def halfM (n : Nat) : Nat := halfG 1 n
theorem halfG_lt : ∀ (d x n : Nat), n - x = d → 0 < x → x < n → halfG x n < n ∧ x ≤ halfG x n := by
 intro d
 induction d using Nat.strongRecOn with
 | _ d ih =>
  intro x n hd hx hn
  rw [halfG]
  by_cases h : 0 < x ∧ 2 * x < n
  · rw [dif_pos h]
    have := ih (n - 2 * x) (by omega) (2 * x) n rfl (by omega) h.2
    omega
  · rw [dif_neg h]
    omega
theorem halfM_lt {n : Nat} (h : 2 ≤ n) : halfM n < n ∧ 1 ≤ halfM n := halfG_lt _ 1 n rfl (by omega) (by omega)
theorem spec_l4Half_l0 : ∀ (d x n : Nat), n - x = d → 0 < x → x ≤ n → n ≤ 1000000000000 → Ev (fun k => spec_l4Half.l0 k (n : Int) (x : Int)) (halfG x n : Int) := by
 intro d
 induction d using Nat.strongRecOn with
 | _ d ih =>
  intro x n hd hx hn hb
  rw [halfG]
  have e : wrap64 (2 * (x : Int)) = ((2 * x : Nat) : Int) := by rw [w64 (by omega) (by omega)]; omega
  by_cases h : 0 < x ∧ 2 * x < n
  · rw [dif_pos h]
    refine Ev.up (ih (n - 2 * x) (by omega) (2 * x) n rfl (by omega) (by omega) hb) (fun k hk => ?_)
    simp only [spec_l4Half.l0]
    rw [e, if_pos (by omega)]
    exact hk
  · rw [dif_neg h]
    refine Ev.up (Ev.now _) (fun k _ => ?_)
    simp only [spec_l4Half.l0]
    rw [e, if_neg (by omega)]
theorem spec_l4Half_ev (n : Nat) (h : 1 ≤ n) (hb : n ≤ 1000000000000) : Ev (fun k => spec_l4Half.f k (n : Int)) (halfM n : Int) :=
 (spec_l4Half_l0 _ 1 n rfl (by omega) h hb).congr (fun k => rfl)
theorem impl_half_l0 : ∀ (d x n : Nat), n - x = d → 0 < x → x ≤ n → n ≤ 1000000000000 → Ev (fun k => impl_half.l0 k (n : Int) (x : Int)) (halfG x n : Int) := by
 intro d
 induction d using Nat.strongRecOn with
 | _ d ih =>
  intro x n hd hx hn hb
  rw [halfG]
  have e : wrap64 (2 * (x : Int)) = ((2 * x : Nat) : Int) := by rw [w64 (by omega) (by omega)]; omega
  have e' : wrap64 ((x : Int) * 2) = ((2 * x : Nat) : Int) := by rw [w64 (by omega) (by omega)]; omega
  by_cases h : 0 < x ∧ 2 * x < n
  · rw [dif_pos h]
    refine Ev.up (ih (n - 2 * x) (by omega) (2 * x) n rfl (by omega) (by omega) hb) (fun k hk => ?_)
    simp only [impl_half.l0]
    rw [e, e', if_pos (by omega)]
    exact hk
  · rw [dif_neg h]
    refine Ev.up (Ev.now _) (fun k _ => ?_)
    simp only [impl_half.l0]
    rw [e, if_neg (by omega)]
theorem impl_half_ev (n : Nat) (h : 1 ≤ n) (hb : n ≤ 1000000000000) : Ev (fun k => impl_half.f k (n : Int)) (halfM n : Int) :=
 (impl_half_l0 _ 1 n rfl (by omega) h hb).congr (fun k => rfl)
def Few (l : List S45) : Prop := ∀ p ∈ l, p.f0.size ≤ 1000000000000 ∧ p.f1.size ≤ 1000000000000
theorem Few.take {l : List S45} (h : Few l) (n : Nat) : Few (l.take n) := fun p hp => h p (List.mem_of_mem_take hp)
theorem Few.drop {l : List S45} (h : Few l) (n : Nat) : Few (l.drop n) := fun p hp => h p (List.mem_of_mem_drop hp)
def innerM (l : List S45) : ByteArray :=
 if h : 2 ≤ l.length then nodeM (innerM (l.take (halfM l.length))) (innerM (l.drop (halfM l.length)))
 else match l with
  | [] => digM []
  | p :: _ => leafM p.f0 p.f1
termination_by l.length
decreasing_by
 · have := halfM_lt h
   rw [List.length_take]
   omega
 · have := halfM_lt h
   rw [List.length_drop]
   omega
theorem innerM_nil : innerM [] = digM [] := by rw [innerM]; rfl
theorem innerM_one (p : S45) : innerM [p] = leafM p.f0 p.f1 := by rw [innerM]; rfl
theorem innerM_two (l : List S45) (h : 2 ≤ l.length) : innerM l = nodeM (innerM (l.take (halfM l.length))) (innerM (l.drop (halfM l.length))) := by
 rw [innerM, dif_pos h]
theorem innerM_size (l : List S45) : (innerM l).size = 32 := by
 by_cases h : 2 ≤ l.length
 · rw [innerM_two l h]
   exact nodeM_size _ _
 · match l, h with
   | [], _ => rw [innerM_nil]; exact digM_size _
   | [p], _ => rw [innerM_one]; exact leafM_size _ _
   | _ :: _ :: _, h => simp at h
def rootM (l : List S45) : ByteArray := digM (topB l.length (innerM l))
def rootOfM (l : List S45) : ByteArray := if l.length > 60 then ⟨#[]⟩ else rootM l
def innerOfM (l : List S45) : ByteArray := if l.length > 60 then ⟨#[]⟩ else innerM l
def pathM (l : List S45) (i : Nat) : List ByteArray :=
 if h : 2 ≤ l.length then
  if i < halfM l.length then pathM (l.take (halfM l.length)) i ++ [innerM (l.drop (halfM l.length))]
  else pathM (l.drop (halfM l.length)) (i - halfM l.length) ++ [innerM (l.take (halfM l.length))]
 else []
termination_by l.length
decreasing_by
 · have := halfM_lt h
   rw [List.length_take]
   omega
 · have := halfM_lt h
   rw [List.length_drop]
   omega
theorem pathM_len : ∀ (n : Nat) (l : List S45) (i : Nat), l.length = n → (pathM l i).length ≤ n := by
 intro n
 induction n using Nat.strongRecOn with
 | _ n ih =>
  intro l i hl
  rw [pathM]
  by_cases h : 2 ≤ l.length
  ·
   have hh := halfM_lt h
   rw [dif_pos h]
   by_cases hi : i < halfM l.length
   · rw [if_pos hi]
     have := ih (l.take (halfM l.length)).length (by rw [List.length_take]; omega) (l.take (halfM l.length)) i rfl
     simp only [List.length_append, List.length_cons, List.length_nil]
     rw [List.length_take] at this
     omega
   · rw [if_neg hi]
     have := ih (l.drop (halfM l.length)).length (by rw [List.length_drop]; omega) (l.drop (halfM l.length)) (i - halfM l.length) rfl
     simp only [List.length_append, List.length_cons, List.length_nil]
     rw [List.length_drop] at this
     omega
  · rw [dif_neg h]
    simp
theorem spec_l4Inner_ev : ∀ (n : Nat) (l : List S45), l.length = n → n ≤ 1000000000000 → Few l → Ev (fun k => spec_l4Inner.f k l) (innerM l) := by
 intro n
 induction n using Nat.strongRecOn with
 | _ n ih =>
  intro l hl hn hf
  by_cases h : 2 ≤ l.length
  ·
   have hh := halfM_lt h
   have l1 : (l.take (halfM l.length)).length = halfM l.length := by rw [List.length_take]; omega
   have l2 : (l.drop (halfM l.length)).length = l.length - halfM l.length := List.length_drop
   obtain ⟨K1, e1⟩ := Ev.get (spec_l4Half_ev l.length (by omega) (by omega))
   obtain ⟨K2, e2⟩ := Ev.get (ih _ (by omega) (l.take (halfM l.length)) l1 (by omega) (hf.take _))
   obtain ⟨K3, e3⟩ := Ev.get (ih _ (by omega) (l.drop (halfM l.length)) l2 (by omega) (hf.drop _))
   obtain ⟨K4, e4⟩ := Ev.get (spec_NodeOf_ev (innerM (l.take (halfM l.length))) (innerM (l.drop (halfM l.length))) (by rw [innerM_size]; omega) (by rw [innerM_size]; omega))
   refine ⟨K1 + K2 + K3 + K4 + 1, fun k hk => ?_⟩
   obtain ⟨k, rfl⟩ : ∃ m, k = m + 1 := ⟨k - 1, by omega⟩
   show spec_l4Inner.f (k + 1) l = _
   simp only [spec_l4Inner.f]
   rw [if_neg (by omega), if_neg (by omega), e1 _ (by omega), Option.bind_some, if_pos (by omega), if_pos (by omega), Int.toNat_natCast, e2 _ (by omega), Option.bind_some, e3 _ (by omega), Option.bind_some, e4 _ (by omega), Option.bind_some, ← innerM_two l h]
  ·
   match l, h, hf with
   | [], _, _ =>
    rw [innerM_nil]
    refine Ev.up (spec_Digest_ev [] By.nil (by simp)) (fun k hk => ?_)
    simp only [spec_l4Inner.f]
    rw [if_pos (by simp), hk, Option.bind_some]
   | [p], _, hf =>
    have := hf p (by simp)
    rw [innerM_one]
    refine Ev.up (spec_LeafOf_ev p.f0 p.f1 this.1 this.2) (fun k hk => ?_)
    simp only [spec_l4Inner.f]
    have hp : rd_T45 [p] 0 = p := rfl
    rw [if_neg (by simp), if_pos (by simp), if_pos (by simp), hp, hk, Option.bind_some]
   | _ :: _ :: _, h, _ => simp at h
theorem impl_innerOf_ev : ∀ (n : Nat) (l : List S45), l.length = n → n ≤ 1000000000000 → Few l → Ev (fun k => impl_innerOf.f k l) (innerM l) := by
 intro n
 induction n using Nat.strongRecOn with
 | _ n ih =>
  intro l hl hn hf
  by_cases h : 2 ≤ l.length
  ·
   have hh := halfM_lt h
   have l1 : (l.take (halfM l.length)).length = halfM l.length := by rw [List.length_take]; omega
   have l2 : (l.drop (halfM l.length)).length = l.length - halfM l.length := List.length_drop
   obtain ⟨K1, e1⟩ := Ev.get (impl_half_ev l.length (by omega) (by omega))
   obtain ⟨K2, e2⟩ := Ev.get (ih _ (by omega) (l.take (halfM l.length)) l1 (by omega) (hf.take _))
   obtain ⟨K3, e3⟩ := Ev.get (ih _ (by omega) (l.drop (halfM l.length)) l2 (by omega) (hf.drop _))
   obtain ⟨K4, e4⟩ := Ev.get (impl_NodeOf_ev (innerM (l.take (halfM l.length))) (innerM (l.drop (halfM l.length))) (by rw [innerM_size]; omega) (by rw [innerM_size]; omega))
   refine ⟨K1 + K2 + K3 + K4 + 1, fun k hk => ?_⟩
   obtain ⟨k, rfl⟩ : ∃ m, k = m + 1 := ⟨k - 1, by omega⟩
   show impl_innerOf.f (k + 1) l = _
   simp only [impl_innerOf.f]
   rw [if_neg (by omega), if_neg (by omega), e1 _ (by omega), Option.bind_some, if_pos (by omega), if_pos (by omega), Int.toNat_natCast, e2 _ (by omega), Option.bind_some, e3 _ (by omega), Option.bind_some, e4 _ (by omega), Option.bind_some, ← innerM_two l h]
  ·
   match l, h, hf with
   | [], _, _ =>
    rw [innerM_nil]
    refine Ev.up (impl_Digest_ev [] (by simp)) (fun k hk => ?_)
    simp only [impl_innerOf.f]
    rw [if_pos (by simp), hk, Option.bind_some]
   | [p], _, hf =>
    have := hf p (by simp)
    rw [innerM_one]
    refine Ev.up (impl_LeafOf_ev p.f0 p.f1 this.1 this.2) (fun k hk => ?_)
    simp only [impl_innerOf.f]
    have hp : rd_T45 [p] 0 = p := rfl
    rw [if_neg (by simp), if_pos (by simp), if_pos (by simp), hp, hk, Option.bind_some]
   | _ :: _ :: _, h, _ => simp at h
theorem impl_InnerOf_ev (l : List S45) (hf : Few l) : Ev (fun k => impl_InnerOf.f k l) (innerOfM l) := by
 unfold innerOfM
 by_cases h : l.length > 60
 · refine ⟨0, fun k _ => ?_⟩
   show impl_InnerOf.f k l = _
   unfold impl_InnerOf.f
   rw [if_pos (by omega), if_pos h]
 ·
  obtain ⟨K1, e1⟩ := Ev.get (impl_innerOf_ev _ l rfl (by omega) hf)
  refine ⟨K1, fun k hk => ?_⟩
  show impl_InnerOf.f k l = _
  unfold impl_InnerOf.f
  rw [if_neg (by omega), if_neg h, e1 _ hk, Option.bind_some]
theorem spec_l4Top_ev (n : Int) (s : ByteArray) (h : s.size ≤ 1000000000000) : Ev (fun k => spec_l4Top.f k n s) (topB n s) := by
 have hl := putNumM_len [2] n
 simp at hl
 obtain ⟨K1, e1⟩ := Ev.get (spec_PutNum_ev [2] n (by simp))
 refine ⟨K1, fun k hk => ?_⟩
 show spec_l4Top.f k n s = _
 unfold spec_l4Top.f
 rw [e1 _ hk, Option.bind_some, if_pos (by omega)]
 rfl
theorem impl_rootBytes_ev (n : Int) (s : ByteArray) (h : s.size ≤ 1000000000000) : Ev (fun k => impl_rootBytes.f k n s) (topB n s) := by
 have hl := putNumM_len [2] n
 simp at hl
 obtain ⟨K1, e1⟩ := Ev.get (impl_putNum_ev [2] n (by simp))
 refine ⟨K1, fun k hk => ?_⟩
 show impl_rootBytes.f k n s = _
 unfold impl_rootBytes.f
 rw [e1 _ hk, Option.bind_some, if_pos (by omega)]
 rfl
theorem spec_l4Root_ev (l : List S45) (hn : l.length ≤ 1000000000000) (hf : Few l) : Ev (fun k => spec_l4Root.f k l) (rootM l) := by
 have hs := innerM_size l
 have ht := topB_len l.length (innerM l)
 obtain ⟨K1, e1⟩ := Ev.get (spec_l4Inner_ev _ l rfl hn hf)
 obtain ⟨K2, e2⟩ := Ev.get (spec_l4Top_ev l.length (innerM l) (by omega))
 obtain ⟨K3, e3⟩ := Ev.get (spec_Digest_ev (topB l.length (innerM l)) (topB_by _ _) (by omega))
 refine ⟨K1 + K2 + K3, fun k hk => ?_⟩
 show spec_l4Root.f k l = _
 unfold spec_l4Root.f
 rw [e1 _ (by omega), Option.bind_some, e2 _ (by omega), Option.bind_some, e3 _ (by omega), Option.bind_some]
 rfl
theorem impl_rootOf_ev (l : List S45) (hn : l.length ≤ 1000000000000) (hf : Few l) : Ev (fun k => impl_rootOf.f k l) (rootM l) := by
 have hs := innerM_size l
 have ht := topB_len l.length (innerM l)
 obtain ⟨K1, e1⟩ := Ev.get (impl_innerOf_ev _ l rfl hn hf)
 obtain ⟨K2, e2⟩ := Ev.get (impl_rootBytes_ev l.length (innerM l) (by omega))
 obtain ⟨K3, e3⟩ := Ev.get (impl_Digest_ev (topB l.length (innerM l)) (by omega))
 refine ⟨K1 + K2 + K3, fun k hk => ?_⟩
 show impl_rootOf.f k l = _
 unfold impl_rootOf.f
 rw [e1 _ (by omega), Option.bind_some, e2 _ (by omega), Option.bind_some, e3 _ (by omega), Option.bind_some]
 rfl
theorem spec_RootOf_ev (l : List S45) (hf : Few l) : Ev (fun k => spec_RootOf.f k l) (rootOfM l) := by
 unfold rootOfM
 by_cases h : l.length > 60
 · refine ⟨0, fun k _ => ?_⟩
   show spec_RootOf.f k l = _
   unfold spec_RootOf.f
   rw [if_pos (by omega), if_pos h]
 ·
  obtain ⟨K1, e1⟩ := Ev.get (spec_l4Root_ev l (by omega) hf)
  refine ⟨K1, fun k hk => ?_⟩
  show spec_RootOf.f k l = _
  unfold spec_RootOf.f
  rw [if_neg (by omega), if_neg h, e1 _ hk, Option.bind_some]
theorem impl_RootOf_ev (l : List S45) (hf : Few l) : Ev (fun k => impl_RootOf.f k l) (rootOfM l) := by
 unfold rootOfM
 by_cases h : l.length > 60
 · refine ⟨0, fun k _ => ?_⟩
   show impl_RootOf.f k l = _
   unfold impl_RootOf.f
   rw [if_pos (by omega), if_pos h]
 ·
  obtain ⟨K1, e1⟩ := Ev.get (impl_rootOf_ev l (by omega) hf)
  refine ⟨K1, fun k hk => ?_⟩
  show impl_RootOf.f k l = _
  unfold impl_RootOf.f
  rw [if_neg (by omega), if_neg h, e1 _ hk, Option.bind_some]
theorem spec_l4Path_ev : ∀ (n : Nat) (l : List S45) (i : Nat), l.length = n → n ≤ 1000000 → i < n → Few l → Ev (fun k => spec_l4Path.f k l (i : Int)) (pathM l i) := by
 intro n
 induction n using Nat.strongRecOn with
 | _ n ih =>
  intro l i hl hn hi hf
  rw [pathM]
  by_cases h : 2 ≤ l.length
  ·
   have hh := halfM_lt h
   have l1 : (l.take (halfM l.length)).length = halfM l.length := by rw [List.length_take]; omega
   have l2 : (l.drop (halfM l.length)).length = l.length - halfM l.length := List.length_drop
   obtain ⟨K1, e1⟩ := Ev.get (spec_l4Half_ev l.length (by omega) (by omega))
   rw [dif_pos h]
   by_cases hi2 : i < halfM l.length
   ·
    rw [if_pos hi2]
    have hp := pathM_len _ (l.take (halfM l.length)) i rfl
    obtain ⟨K2, e2⟩ := Ev.get (ih _ (by omega) (l.take (halfM l.length)) i l1 (by omega) hi2 (hf.take _))
    obtain ⟨K3, e3⟩ := Ev.get (spec_l4Inner_ev _ (l.drop (halfM l.length)) rfl (by omega) (hf.drop _))
    refine ⟨K1 + K2 + K3 + 1, fun k hk => ?_⟩
    obtain ⟨k, rfl⟩ : ∃ m, k = m + 1 := ⟨k - 1, by omega⟩
    show spec_l4Path.f (k + 1) l _ = _
    simp only [spec_l4Path.f]
    rw [if_neg (by omega), e1 _ (by omega), Option.bind_some, if_pos (by omega), if_pos (by omega), if_pos (by omega), Int.toNat_natCast, e2 _ (by omega), Option.bind_some, e3 _ (by omega), Option.bind_some, if_pos (by omega)]
   ·
    rw [if_neg hi2]
    have hp := pathM_len _ (l.drop (halfM l.length)) (i - halfM l.length) rfl
    obtain ⟨K2, e2⟩ := Ev.get (ih _ (by omega) (l.drop (halfM l.length)) (i - halfM l.length) l2 (by omega) (by omega) (hf.drop _))
    obtain ⟨K3, e3⟩ := Ev.get (spec_l4Inner_ev _ (l.take (halfM l.length)) rfl (by omega) (hf.take _))
    refine ⟨K1 + K2 + K3 + 1, fun k hk => ?_⟩
    obtain ⟨k, rfl⟩ : ∃ m, k = m + 1 := ⟨k - 1, by omega⟩
    show spec_l4Path.f (k + 1) l _ = _
    simp only [spec_l4Path.f]
    have ew : wrap64 ((i : Int) - (halfM l.length : Int)) = ((i - halfM l.length : Nat) : Int) := by rw [w64 (by omega) (by omega)]; omega
    rw [if_neg (by omega), e1 _ (by omega), Option.bind_some, if_neg (by omega), if_pos (by omega), if_pos (by omega), Int.toNat_natCast, ew, e2 _ (by omega), Option.bind_some, e3 _ (by omega), Option.bind_some, if_pos (by omega)]
  · rw [dif_neg h]
    refine Ev.up (Ev.now _) (fun k _ => ?_)
    simp only [spec_l4Path.f]
    rw [if_pos (by omega)]
theorem impl_pathOf_ev : ∀ (n : Nat) (l : List S45) (i : Nat), l.length = n → n ≤ 1000000 → i < n → Few l → Ev (fun k => impl_pathOf.f k l (i : Int)) (pathM l i) := by
 intro n
 induction n using Nat.strongRecOn with
 | _ n ih =>
  intro l i hl hn hi hf
  rw [pathM]
  by_cases h : 2 ≤ l.length
  ·
   have hh := halfM_lt h
   have l1 : (l.take (halfM l.length)).length = halfM l.length := by rw [List.length_take]; omega
   have l2 : (l.drop (halfM l.length)).length = l.length - halfM l.length := List.length_drop
   obtain ⟨K1, e1⟩ := Ev.get (impl_half_ev l.length (by omega) (by omega))
   rw [dif_pos h]
   by_cases hi2 : i < halfM l.length
   ·
    rw [if_pos hi2]
    have hp := pathM_len _ (l.take (halfM l.length)) i rfl
    obtain ⟨K2, e2⟩ := Ev.get (ih _ (by omega) (l.take (halfM l.length)) i l1 (by omega) hi2 (hf.take _))
    obtain ⟨K3, e3⟩ := Ev.get (impl_innerOf_ev _ (l.drop (halfM l.length)) rfl (by omega) (hf.drop _))
    refine ⟨K1 + K2 + K3 + 1, fun k hk => ?_⟩
    obtain ⟨k, rfl⟩ : ∃ m, k = m + 1 := ⟨k - 1, by omega⟩
    show impl_pathOf.f (k + 1) l _ = _
    simp only [impl_pathOf.f]
    rw [if_neg (by omega), e1 _ (by omega), Option.bind_some, if_pos (by omega), if_pos (by omega), if_pos (by omega), Int.toNat_natCast, e2 _ (by omega), Option.bind_some, e3 _ (by omega), Option.bind_some, if_pos (by omega)]
   ·
    rw [if_neg hi2]
    have hp := pathM_len _ (l.drop (halfM l.length)) (i - halfM l.length) rfl
    obtain ⟨K2, e2⟩ := Ev.get (ih _ (by omega) (l.drop (halfM l.length)) (i - halfM l.length) l2 (by omega) (by omega) (hf.drop _))
    obtain ⟨K3, e3⟩ := Ev.get (impl_innerOf_ev _ (l.take (halfM l.length)) rfl (by omega) (hf.take _))
    refine ⟨K1 + K2 + K3 + 1, fun k hk => ?_⟩
    obtain ⟨k, rfl⟩ : ∃ m, k = m + 1 := ⟨k - 1, by omega⟩
    show impl_pathOf.f (k + 1) l _ = _
    simp only [impl_pathOf.f]
    have ew : wrap64 ((i : Int) - (halfM l.length : Int)) = ((i - halfM l.length : Nat) : Int) := by rw [w64 (by omega) (by omega)]; omega
    rw [if_neg (by omega), e1 _ (by omega), Option.bind_some, if_neg (by omega), if_pos (by omega), if_pos (by omega), Int.toNat_natCast, ew, e2 _ (by omega), Option.bind_some, e3 _ (by omega), Option.bind_some, if_pos (by omega)]
  · rw [dif_neg h]
    refine Ev.up (Ev.now _) (fun k _ => ?_)
    simp only [impl_pathOf.f]
    rw [if_pos (by omega)]
end Go.Proofs.Ytgmfhchhbidlnaa.P
/- The readers of numbers and texts: the program's and the reference's answer what the model answers. No condition but bounds on lengths. -/
namespace Go.Proofs.Ytgmfhchhbidlnaa.P
open Go.RowKit Go.Proofs.YtgmfhchhbidlnaaW.PrintWords Go.Proofs.YtgmfhchhbidlnaaW.PrintLast Go.Proofs.YtgmfhchhbidlnaaW.PrintMore
set_option linter.unusedVariables false
set_option linter.unusedSimpArgs false
end Go.Proofs.Ytgmfhchhbidlnaa.P
/- Rows of pairs, of orders, of texts: what the program's functions over them answer, and the reference's. No condition but bounds on lengths. -/
namespace Go.Proofs.Ytgmfhchhbidlnaa.P
open Go.RowKit Go.Proofs.YtgmfhchhbidlnaaW.PrintWords Go.Proofs.YtgmfhchhbidlnaaW.PrintLast Go.Proofs.YtgmfhchhbidlnaaW.PrintMore
set_option linter.unusedVariables false
set_option linter.unusedSimpArgs false
theorem filt_step {α : Type} (p : α → Bool) (l : List α) (i : Nat) (h : i < l.length) : (l.take (i + 1)).filter p = if p l[i] then (l.take i).filter p ++ [l[i]] else (l.take i).filter p := by
 rw [← List.take_append_getElem h, List.filter_append]
 by_cases c : p l[i] = true
 · simp [c]
 · simp [c]
theorem filt_le {α : Type} (p : α → Bool) (l : List α) (i : Nat) : ((l.take i).filter p).length ≤ l.length :=
 Nat.le_trans (List.length_filter_le _ _) (by rw [List.length_take]; omega)
def btwB (a b : ByteArray) (p : S45) : Bool := !(Op.bytesLess p.f0.toList a.toList) && (decide (b.toList = []) || Op.bytesLess p.f0.toList b.toList)
theorem spec_l3In_eq (p : S45) (a b : ByteArray) : spec_l3In.f p.f0 a b = some (btwB a b p) := by
 unfold spec_l3In.f btwB
 by_cases c : Op.bytesLess p.f0.toList a.toList = true
 · simp [c]
 · by_cases c2 : b.toList = []
   · simp [c, c2]
   · simp [c, c2]
theorem impl_isBetween_eq (p : S45) (a b : ByteArray) : impl_isBetween.f p.f0 a b = some (btwB a b p) := by
 unfold impl_isBetween.f btwB
 by_cases c : Op.bytesLess p.f0.toList a.toList = true
 · simp [c]
 · by_cases c2 : b.toList = []
   · simp [c, c2]
   · simp [c, c2]
theorem impl_Between_loop (l : List S45) (hn : l.length ≤ 1000000000000) (a b : ByteArray) : ∀ d i : Nat, l.length - i = d → i ≤ l.length →
 Ev (fun k => impl_Between.l0 k a b ((l.take i).filter (btwB a b)) l (l.length : Int) (i : Int)) (l.filter (btwB a b)) := by
 intro d
 induction d with
 | zero =>
  intro i hd hi
  obtain rfl : i = l.length := by omega
  refine Ev.up (Ev.now (l.filter (btwB a b))) (fun k _ => ?_)
  simp only [impl_Between.l0]
  rw [if_neg (by omega), List.take_length]
 | succ d ih =>
  intro i hd hi
  have hil : i < l.length := by omega
  refine Ev.up (ih (i + 1) (by omega) (by omega)) (fun k hx => ?_)
  rw [filt_step (btwB a b) l i hil] at hx
  have hle := filt_le (btwB a b) l i
  simp only [impl_Between.l0]
  rw [if_pos (by omega), if_pos (by omega), if_pos (by omega), rd_45_nat l i hil, impl_isBetween_eq, Option.bind_some]
  by_cases c : btwB a b l[i] = true
  · rw [if_pos c, if_pos (by omega), w64 (by omega) (by omega)]
    rw [if_pos c] at hx
    exact hx
  · rw [if_neg c, w64 (by omega) (by omega)]
    rw [if_neg c] at hx
    exact hx
theorem impl_Between_ev (l : List S45) (hn : l.length ≤ 1000000000000) (a b : ByteArray) : Ev (fun k => impl_Between.f k l a b) (l.filter (btwB a b)) :=
 impl_Between_loop l hn a b _ 0 rfl (by omega)
end Go.Proofs.Ytgmfhchhbidlnaa.P
/- Rows of pairs in order: what the rules say of each, and how the pairs between two keys part. No condition but bounds on lengths. -/
namespace Go.Proofs.Ytgmfhchhbidlnaa.P
open Go.RowKit Go.Proofs.YtgmfhchhbidlnaaW.PrintWords Go.Proofs.YtgmfhchhbidlnaaW.PrintLast Go.Proofs.YtgmfhchhbidlnaaW.PrintMore
set_option linter.unusedVariables false
set_option linter.unusedSimpArgs false
theorem less_trans : ∀ {x y z : List UInt8}, Op.bytesLess x y = true → Op.bytesLess y z = true → Op.bytesLess x z = true
 | _, _, [], _, h => by simp [Op.bytesLess] at h
 | _, [], _ :: _, h, _ => by simp [Op.bytesLess] at h
 | [], _ :: _, _ :: _, _, _ => by simp [Op.bytesLess]
 | a :: x, b :: y, c :: z, h, k => by
  simp only [Op.bytesLess, Bool.or_eq_true, Bool.and_eq_true, decide_eq_true_eq, beq_iff_eq] at h k ⊢
  have lt : ∀ p q : UInt8, p < q ↔ p.toNat < q.toNat := fun p q => UInt8.lt_iff_toNat_lt
  rcases h with h | ⟨rfl, h⟩
  · rcases k with k | ⟨rfl, k⟩
    · left; rw [lt] at h k ⊢; omega
    · left; exact h
  · rcases k with k | ⟨rfl, k⟩
    · left; exact k
    · right; exact ⟨rfl, less_trans h k⟩
theorem less_or {x y : List UInt8} (h : ¬ Op.bytesLess y x = true) : Op.bytesLess x y = true ∨ x = y := by
 have e := bytesLess_turn x y
 have hf : Op.bytesLess y x = false := by simpa using h
 rw [hf] at e
 simpa using e
theorem pokM_all (l : List S45) : ∀ d i : Nat, pokM l d i = true → ∀ j : Nat, i ≤ j → j < i + d →
 pairOkM (rd_T45 l j).f0 (rd_T45 l j).f1 = true ∧ ((j : Int) > 0 → Op.bytesLess (rd_T45 l ((j : Int) - 1)).f0.toList (rd_T45 l j).f0.toList = true) := by
 intro d
 induction d with
 | zero => intro i _ j h1 h2; omega
 | succ d ih =>
  intro i h j h1 h2
  rw [pokM] at h
  split at h
  ·
   rename_i c
   split at h
   ·
    rename_i c2
    split at h
    · rename_i c3
      rcases Nat.lt_or_ge i j with hij | hij
      · exact ih (i + 1) h j (by omega) (by omega)
      · obtain rfl : j = i := by omega
        exact ⟨c, fun _ => c3⟩
    · cases h
   · rename_i c2
     rcases Nat.lt_or_ge i j with hij | hij
     · exact ih (i + 1) h j (by omega) (by omega)
     · obtain rfl : j = i := by omega
       exact ⟨c, fun h => absurd h c2⟩
  · cases h
theorem pokM_pairwise (l : List S45) (h : pokM l l.length 0 = true) : l.Pairwise (fun x y => Op.bytesLess x.f0.toList y.f0.toList = true) := by
 have hc : ∀ j : Nat, (hj : j + 1 < l.length) → Op.bytesLess (l[j]'(by omega)).f0.toList l[j + 1].f0.toList = true := by
  intro j hj
  have h1 := (pokM_all l l.length 0 h (j + 1) (by omega) (by omega)).2 (by omega)
  rw [show ((j + 1 : Nat) : Int) - 1 = (j : Int) by omega, rd_45_nat l j (by omega), rd_45_nat l (j + 1) hj] at h1
  exact h1
 rw [List.pairwise_iff_getElem]
 intro i j hi hj hij
 obtain ⟨d, rfl⟩ : ∃ d, j = i + d + 1 := ⟨j - i - 1, by omega⟩
 induction d with
 | zero => exact hc i hj
 | succ d ih => exact less_trans (ih (by omega) (by omega)) (hc (i + d + 1) hj)
theorem samePairs_loop (l : List S45) (hn : l.length ≤ 1000000000000) : ∀ d i : Nat, l.length - i = d → i ≤ l.length → Ev (fun k => laws_samePairs.l0 k l l (i : Int)) true := by
 intro d
 induction d with
 | zero =>
  intro i hd hi
  refine Ev.up (Ev.now true) (fun k _ => ?_)
  simp only [laws_samePairs.l0]
  rw [if_neg (by omega)]
 | succ d ih =>
  intro i hd hi
  refine Ev.up (ih (i + 1) (by omega) (by omega)) (fun k h => ?_)
  simp only [laws_samePairs.l0]
  rw [if_pos (by omega), if_pos (by omega), if_pos (by omega), if_neg (by simp), w64 (by omega) (by omega)]
  exact h
theorem samePairs_ev (l : List S45) (hn : l.length ≤ 1000000000000) : Ev (fun k => laws_samePairs.f k l l) true := by
 refine (samePairs_loop l hn _ 0 rfl (by omega)).congr (fun k => ?_)
 unfold laws_samePairs.f
 rw [if_pos rfl]
 rfl
end Go.Proofs.Ytgmfhchhbidlnaa.P
/- The way up from a pair to a root: the program's and the reference's answer what the model answers. No condition but bounds on lengths. -/
namespace Go.Proofs.Ytgmfhchhbidlnaa.P
open Go.RowKit Go.Proofs.YtgmfhchhbidlnaaW.PrintWords Go.Proofs.YtgmfhchhbidlnaaW.PrintLast Go.Proofs.YtgmfhchhbidlnaaW.PrintMore
set_option linter.unusedVariables false
set_option linter.unusedSimpArgs false
theorem bytesOf_strOfNums {l : List Int} (h : By l) : bytesOf (strOfNums l) = l := by
 unfold bytesOf strOfNums
 simp only [List.map_map]
 conv => rhs; rw [← List.map_id l]
 apply List.map_congr_left
 intro x hx
 have := h x hx
 simp only [Function.comp_apply, id_eq]
 rw [UInt8.toNat_ofNat_of_lt' (by simp [UInt8.size]; omega)]
 omega
def lastL (l : List (List Int)) : List Int := l.getLast?.getD []
def lastS (l : List ByteArray) : ByteArray := l.getLast?.getD ByteArray.empty
def climbR (leaf : List Int) (n i : Nat) (path : List ByteArray) : List (List Int) × Bool :=
 if h : 2 ≤ n then
  if path.length = 0 then ([], false)
  else if i < halfM n then
   if (climbR leaf (halfM n) i (path.take (path.length - 1))).2 = true then
    ((climbR leaf (halfM n) i (path.take (path.length - 1))).1 ++ [nodeB (digM (lastL (climbR leaf (halfM n) i (path.take (path.length - 1))).1)) (lastS path)], true)
   else ([], false)
  else
   if (climbR leaf (n - halfM n) (i - halfM n) (path.take (path.length - 1))).2 = true then
    ((climbR leaf (n - halfM n) (i - halfM n) (path.take (path.length - 1))).1 ++ [nodeB (lastS path) (digM (lastL (climbR leaf (n - halfM n) (i - halfM n) (path.take (path.length - 1))).1))], true)
   else ([], false)
 else ([leaf], path.length == 0)
termination_by n
decreasing_by all_goals (have := halfM_lt h; omega)
def wayR (leaf : List Int) (n i : Nat) (path : List ByteArray) : List (List Int) × Bool :=
 if (climbR leaf n i path).2 = true then ((climbR leaf n i path).1 ++ [topB n (digM (lastL (climbR leaf n i path).1))], true) else ([], false)
def checkM (leaf : List Int) (i n : Int) (path : List ByteArray) (root : ByteArray) : Bool :=
 if (1 ≤ n ∧ n ≤ 60) ∧ 0 ≤ i ∧ i < n then
  (if (wayR leaf n.toNat i.toNat path).2 = true then (digM (lastL (wayR leaf n.toNat i.toNat path).1)).toList == root.toList else false)
 else false
def FewS (l : List ByteArray) : Prop := ∀ s ∈ l, s.size ≤ 10000000
def Ways (l : List (List Int)) : Prop := ∀ x ∈ l, By x ∧ x.length ≤ 100000000
theorem FewS.take {l : List ByteArray} (h : FewS l) (n : Nat) : FewS (l.take n) := fun p hp => h p (List.mem_of_mem_take hp)
theorem lastS_few {l : List ByteArray} (h : FewS l) : (lastS l).size ≤ 10000000 := by
 unfold lastS
 cases hl : l.getLast? with
 | none => show ByteArray.empty.size ≤ _; simp
 | some s => exact h s (List.mem_of_getLast? hl)
theorem lastL_ways {l : List (List Int)} (h : Ways l) : By (lastL l) ∧ (lastL l).length ≤ 100000000 := by
 unfold lastL
 cases hl : l.getLast? with
 | none => exact ⟨By.nil, by simp⟩
 | some s => exact h s (List.mem_of_getLast? hl)
theorem Ways.snoc {l : List (List Int)} (h : Ways l) {x : List Int} (hb : By x) (hl : x.length ≤ 100000000) : Ways (l ++ [x]) := fun y hy => by
 rcases List.mem_append.1 hy with h1 | h1
 · exact h y h1
 · rw [List.mem_singleton.1 h1]; exact ⟨hb, hl⟩
theorem climbR_ok {leaf : List Int} (hb : By leaf) (hl : leaf.length ≤ 100000000) : ∀ (n i : Nat) (path : List ByteArray), FewS path →
 Ways (climbR leaf n i path).1 ∧ (climbR leaf n i path).1.length ≤ n + 1 ∧ ((climbR leaf n i path).2 = true → 0 < (climbR leaf n i path).1.length) := by
 intro n
 induction n using Nat.strongRecOn with
 | _ n ih =>
  intro i path hp
  rw [climbR]
  by_cases h : 2 ≤ n
  ·
   have hh := halfM_lt h
   rw [dif_pos h]
   by_cases h0 : path.length = 0
   · rw [if_pos h0]
     exact ⟨fun _ hx => absurd hx (List.not_mem_nil), by simp, fun e => by simp at e⟩
   ·
    rw [if_neg h0]
    have hs := lastS_few hp
    by_cases hi : i < halfM n
    ·
     rw [if_pos hi]
     obtain ⟨i1, i2, i3⟩ := ih (halfM n) (by omega) i _ (hp.take (path.length - 1))
     generalize climbR leaf (halfM n) i (path.take (path.length - 1)) = r at *
     by_cases hr : r.2 = true
     · rw [if_pos hr]
       have hd := digM_size (lastL r.1)
       exact ⟨i1.snoc (nodeB_by _ _) (by rw [nodeB_length]; omega), by simp; omega, fun _ => by simp⟩
     · rw [if_neg hr]
       exact ⟨fun _ hx => absurd hx (List.not_mem_nil), by simp, fun e => by simp at e⟩
    ·
     rw [if_neg hi]
     obtain ⟨i1, i2, i3⟩ := ih (n - halfM n) (by omega) (i - halfM n) _ (hp.take (path.length - 1))
     generalize climbR leaf (n - halfM n) (i - halfM n) (path.take (path.length - 1)) = r at *
     by_cases hr : r.2 = true
     · rw [if_pos hr]
       have hd := digM_size (lastL r.1)
       exact ⟨i1.snoc (nodeB_by _ _) (by rw [nodeB_length]; omega), by simp; omega, fun _ => by simp⟩
     · rw [if_neg hr]
       exact ⟨fun _ hx => absurd hx (List.not_mem_nil), by simp, fun e => by simp at e⟩
  · rw [dif_neg h]
    exact ⟨fun x hx => by rw [List.mem_singleton.1 hx]; exact ⟨hb, hl⟩, by simp, fun _ => by simp⟩
theorem rd_last (path : List ByteArray) (h : 0 < path.length) : rdOf ByteArray.empty path (wrap64 ((path.length : Int) - 1)) = lastS path ∨ ¬ path.length ≤ 1000000000000 := by
 by_cases hb : path.length ≤ 1000000000000
 ·
  left
  rw [w64 (by omega) (by omega), show (path.length : Int) - 1 = ((path.length - 1 : Nat) : Int) by omega, rdOf_nat path _ (by omega)]
  unfold lastS
  rw [List.getLast?_eq_getElem?, List.getElem?_eq_getElem (by omega)]
  rfl
 · exact .inr hb
theorem rd_last' (path : List ByteArray) (h : 0 < path.length) (hb : path.length ≤ 1000000000000) : rdOf ByteArray.empty path ((path.length - 1 : Nat) : Int) = lastS path := by
 rw [rdOf_nat path _ (by omega)]
 unfold lastS
 rw [List.getLast?_eq_getElem?, List.getElem?_eq_getElem (by omega)]
 rfl
theorem lastS_map {l : List (List Int)} (h : 0 < l.length) : lastS (l.map strOfNums) = strOfNums (lastL l) := by
 unfold lastS lastL
 rw [List.getLast?_map]
 cases hl : l.getLast? with
 | none => rw [List.getLast?_eq_none_iff] at hl; subst hl; simp at h
 | some s => rfl
theorem rdL2_last (l : List (List Int)) (h : 0 < l.length) : rd_L9 l ((l.length - 1 : Nat) : Int) = lastL l := by
 unfold rd_L9 lastL
 rw [List.getLast?_eq_getElem?]
 simp [List.getD_eq_getElem?_getD]
theorem impl_climb_ev (a b : ByteArray) (ha : a.size ≤ 10000000) (hb : b.size ≤ 10000000) : ∀ (n i : Nat) (path : List ByteArray), 1 ≤ n → n ≤ 1000 → i < n → FewS path → path.length ≤ 1000000000 →
 Ev (fun k => impl_climb.f k a b (i : Int) (n : Int) path) (climbR (leafB a b) n i path) := by
 have hlb := leafB_by a b
 have hll := leafB_len a b
 intro n
 induction n using Nat.strongRecOn with
 | _ n ih =>
  intro i path h1 hn hi hp hpl
  rw [climbR]
  by_cases h : 2 ≤ n
  ·
   have hh := halfM_lt h
   rw [dif_pos h]
   by_cases h0 : path.length = 0
   · rw [if_pos h0]
     refine Ev.up (Ev.now _) (fun k _ => ?_)
     simp only [impl_climb.f]
     rw [if_neg (by omega), w64 (by omega) (by omega), if_pos (by omega)]
   ·
    rw [if_neg h0]
    have hs := lastS_few hp
    have ew : wrap64 ((path.length : Int) - 1) = ((path.length - 1 : Nat) : Int) := by rw [w64 (by omega) (by omega)]; omega
    have hr := rd_last' path (by omega) (by omega)
    obtain ⟨K1, e1⟩ := Ev.get (impl_half_ev n (by omega) (by omega))
    by_cases hi2 : i < halfM n
    ·
     rw [if_pos hi2]
     obtain ⟨j1, j2, j3⟩ := climbR_ok hlb (by omega) (halfM n) i _ (hp.take (path.length - 1))
     obtain ⟨K2, e2⟩ := Ev.get (ih (halfM n) (by omega) i (path.take (path.length - 1)) (by omega) (by omega) hi2 (hp.take _) (by rw [List.length_take]; omega))
     generalize climbR (leafB a b) (halfM n) i (path.take (path.length - 1)) = r at *
     obtain ⟨K3, e3⟩ := Ev.get (impl_Digest_ev (lastL r.1) (by have := (lastL_ways j1).2; omega))
     have hd := digM_size (lastL r.1)
     refine ⟨K1 + K2 + K3 + 2, fun k hk => ?_⟩
     obtain ⟨k, rfl⟩ : ∃ m, k = m + 2 := ⟨k - 2, by omega⟩
     show impl_climb.f (k + 2) a b _ _ path = _
     simp only [impl_climb.f]
     rw [if_neg (by omega), ew, if_neg (by omega), e1 _ (by omega), Option.bind_some, if_neg (by omega)]
     simp only [impl_climb.j0]
     rw [if_pos (by omega), if_pos (by omega), Int.toNat_natCast, e2 _ (by omega), Option.bind_some]
     by_cases hrt : r.2 = true
     · have hl0 := j3 hrt
       have ew2 : wrap64 ((r.1.length : Int) - 1) = ((r.1.length - 1 : Nat) : Int) := by rw [w64 (by omega) (by omega)]; omega
       rw [if_pos hrt, if_pos hrt, ew2, if_pos (by omega), if_pos (by omega), rdL2_last r.1 hl0, e3 _ (by omega), Option.bind_some, if_neg (by simp; omega), if_pos (by omega), hr, impl_nodeBytes_eq _ _ (by omega) (by omega), Option.bind_some, if_pos (by omega)]
     · rw [if_neg hrt, if_neg hrt]
    ·
     rw [if_neg hi2]
     obtain ⟨j1, j2, j3⟩ := climbR_ok hlb (by omega) (n - halfM n) (i - halfM n) _ (hp.take (path.length - 1))
     obtain ⟨K2, e2⟩ := Ev.get (ih (n - halfM n) (by omega) (i - halfM n) (path.take (path.length - 1)) (by omega) (by omega) (by omega) (hp.take _) (by rw [List.length_take]; omega))
     generalize climbR (leafB a b) (n - halfM n) (i - halfM n) (path.take (path.length - 1)) = r at *
     obtain ⟨K3, e3⟩ := Ev.get (impl_Digest_ev (lastL r.1) (by have := (lastL_ways j1).2; omega))
     have hd := digM_size (lastL r.1)
     have ei : wrap64 ((i : Int) - (halfM n : Int)) = ((i - halfM n : Nat) : Int) := by rw [w64 (by omega) (by omega)]; omega
     have en : wrap64 ((n : Int) - (halfM n : Int)) = ((n - halfM n : Nat) : Int) := by rw [w64 (by omega) (by omega)]; omega
     refine ⟨K1 + K2 + K3 + 2, fun k hk => ?_⟩
     obtain ⟨k, rfl⟩ : ∃ m, k = m + 2 := ⟨k - 2, by omega⟩
     show impl_climb.f (k + 2) a b _ _ path = _
     simp only [impl_climb.f]
     rw [if_neg (by omega), ew, if_neg (by omega), e1 _ (by omega), Option.bind_some, if_pos (by omega), ei, en]
     simp only [impl_climb.j0]
     rw [if_pos (by omega), if_pos (by omega), Int.toNat_natCast, e2 _ (by omega), Option.bind_some]
     by_cases hrt : r.2 = true
     · have hl0 := j3 hrt
       have ew2 : wrap64 ((r.1.length : Int) - 1) = ((r.1.length - 1 : Nat) : Int) := by rw [w64 (by omega) (by omega)]; omega
       rw [if_pos hrt, if_pos hrt, ew2, if_pos (by omega), if_pos (by omega), rdL2_last r.1 hl0, e3 _ (by omega), Option.bind_some, if_pos (by simp; omega), if_pos (by omega), hr, impl_nodeBytes_eq _ _ (by omega) (by omega), Option.bind_some, if_pos (by omega)]
     · rw [if_neg hrt, if_neg hrt]
  ·
   obtain rfl : n = 1 := by omega
   rw [dif_neg h]
   obtain ⟨K1, e1⟩ := Ev.get (impl_leafBytes_ev a b (by omega) (by omega))
   refine ⟨K1 + 1, fun k hk => ?_⟩
   obtain ⟨k, rfl⟩ : ∃ m, k = m + 1 := ⟨k - 1, by omega⟩
   show impl_climb.f (k + 1) a b _ _ path = _
   simp only [impl_climb.f]
   rw [if_pos (by omega), e1 _ (by omega), Option.bind_some]
   congr 2
   cases hq : path.length with
   | zero => rfl
   | succ m => simp; omega
theorem impl_wayTo_ev (a b : ByteArray) (ha : a.size ≤ 10000000) (hb : b.size ≤ 10000000) (n i : Nat) (path : List ByteArray) (h1 : 1 ≤ n) (hn : n ≤ 1000) (hi : i < n) (hp : FewS path) (hpl : path.length ≤ 1000000000) :
 Ev (fun k => impl_wayTo.f k a b (i : Int) (n : Int) path) (wayR (leafB a b) n i path) := by
 have hlb := leafB_by a b
 have hll := leafB_len a b
 obtain ⟨j1, j2, j3⟩ := climbR_ok hlb (by omega) n i path hp
 obtain ⟨K1, e1⟩ := Ev.get (impl_climb_ev a b ha hb n i path h1 hn hi hp hpl)
 unfold wayR
 generalize climbR (leafB a b) n i path = r at *
 obtain ⟨K2, e2⟩ := Ev.get (impl_Digest_ev (lastL r.1) (by have := (lastL_ways j1).2; omega))
 have hd := digM_size (lastL r.1)
 obtain ⟨K3, e3⟩ := Ev.get (impl_rootBytes_ev (n : Int) (digM (lastL r.1)) (by omega))
 refine ⟨K1 + K2 + K3, fun k hk => ?_⟩
 show impl_wayTo.f k a b _ _ path = _
 unfold impl_wayTo.f
 rw [e1 _ (by omega), Option.bind_some]
 by_cases hrt : r.2 = true
 · have hl0 := j3 hrt
   have ew2 : wrap64 ((r.1.length : Int) - 1) = ((r.1.length - 1 : Nat) : Int) := by rw [w64 (by omega) (by omega)]; omega
   rw [if_pos hrt, if_pos hrt, ew2, if_pos (by omega), if_pos (by omega), rdL2_last r.1 hl0, e2 _ (by omega), Option.bind_some, e3 _ (by omega), Option.bind_some, if_pos (by omega)]
 · rw [if_neg hrt, if_neg hrt]
theorem wayR_ok {leaf : List Int} (hb : By leaf) (hl : leaf.length ≤ 100000000) (n i : Nat) (path : List ByteArray) (hp : FewS path) :
 Ways (wayR leaf n i path).1 ∧ (wayR leaf n i path).1.length ≤ n + 2 ∧ ((wayR leaf n i path).2 = true → 0 < (wayR leaf n i path).1.length) := by
 obtain ⟨j1, j2, j3⟩ := climbR_ok hb hl n i path hp
 unfold wayR
 generalize climbR leaf n i path = r at *
 have hd := digM_size (lastL r.1)
 have ht := topB_len n (digM (lastL r.1))
 by_cases hrt : r.2 = true
 · rw [if_pos hrt]
   exact ⟨j1.snoc (topB_by _ _) (by omega), by simp; omega, fun _ => by simp⟩
 · rw [if_neg hrt]
   exact ⟨fun _ hx => absurd hx (List.not_mem_nil), by simp, fun e => by simp at e⟩
theorem inRange_eqP (a b c : Int) : impl_inRange.f a b c = some (decide (b ≤ a ∧ a ≤ c)) := by
 unfold impl_inRange.f
 by_cases h : a ≥ b
 · rw [if_pos h]
   congr 1
   by_cases h2 : a ≤ c <;> simp [h2, show b ≤ a from h]
 · rw [if_neg h]
   congr 1
   simp [show ¬ b ≤ a by omega]
theorem isPlace_eq (i n : Int) (hn : -9223372036854775808 ≤ n ∧ n ≤ 9223372036854775807) : impl_isPlace.f i n = some (decide ((1 ≤ n ∧ n ≤ 60) ∧ 0 ≤ i ∧ i < n)) := by
 unfold impl_isPlace.f
 rw [inRange_eqP, Option.bind_some]
 by_cases h : 1 ≤ n ∧ n ≤ 60
 ·
  rw [if_pos (by simpa using h), inRange_eqP, w64 (by omega) (by omega), Option.bind_some]
  congr 1
  by_cases h2 : 0 ≤ i ∧ i < n
  · simp [h, h2]; omega
  · have : ¬ (0 ≤ i ∧ i ≤ n - 1) := by omega
    simp [h, h2, this]
 · rw [if_neg (by simpa using h)]
   simp [h]
theorem impl_CheckPath_ev (a b : ByteArray) (ha : a.size ≤ 10000000) (hb : b.size ≤ 10000000) (i n : Int) (hn : -9223372036854775808 ≤ n ∧ n ≤ 9223372036854775807) (path : List ByteArray) (hp : FewS path) (hpl : path.length ≤ 1000000000) (root : ByteArray) :
 Ev (fun k => impl_CheckPath.f k a b i n path root) (checkM (leafB a b) i n path root) := by
 have hlb := leafB_by a b
 have hll := leafB_len a b
 unfold checkM
 by_cases h : (1 ≤ n ∧ n ≤ 60) ∧ 0 ≤ i ∧ i < n
 ·
  obtain ⟨m, rfl⟩ : ∃ m : Nat, n = (m : Int) := ⟨n.toNat, by omega⟩
  obtain ⟨j, rfl⟩ : ∃ j : Nat, i = (j : Int) := ⟨i.toNat, by omega⟩
  rw [if_pos h, Int.toNat_natCast, Int.toNat_natCast]
  obtain ⟨j1, j2, j3⟩ := wayR_ok hlb (by omega) m j path hp
  obtain ⟨K1, e1⟩ := Ev.get (impl_wayTo_ev a b ha hb m j path (by omega) (by omega) (by omega) hp hpl)
  generalize wayR (leafB a b) m j path = r at *
  obtain ⟨K2, e2⟩ := Ev.get (impl_Digest_ev (lastL r.1) (by have := (lastL_ways j1).2; omega))
  refine ⟨K1 + K2, fun k hk => ?_⟩
  show impl_CheckPath.f k a b _ _ path root = _
  unfold impl_CheckPath.f
  rw [isPlace_eq _ _ hn, Option.bind_some, if_pos (by simpa using h), e1 _ (by omega), Option.bind_some]
  by_cases hrt : r.2 = true
  · have hl0 := j3 hrt
    have ew2 : wrap64 ((r.1.length : Int) - 1) = ((r.1.length - 1 : Nat) : Int) := by rw [w64 (by omega) (by omega)]; omega
    rw [if_pos hrt, if_pos hrt, ew2, if_pos (by omega), if_pos (by omega), rdL2_last r.1 hl0, e2 _ (by omega), Option.bind_some]
  · rw [if_neg hrt, if_neg hrt]
 ·
  rw [if_neg h]
  refine ⟨0, fun k hk => ?_⟩
  show impl_CheckPath.f k a b _ _ path root = _
  unfold impl_CheckPath.f
  rw [isPlace_eq _ _ hn, Option.bind_some, if_neg (by simpa using h)]
def strR (r : List (List Int) × Bool) : List ByteArray × Bool := (r.1.map strOfNums, r.2)
theorem spec_l4Hashed_ev (leaf : List Int) (hlb : By leaf) (hll : leaf.length ≤ 100000000) : ∀ (n i : Nat) (path : List ByteArray), 1 ≤ n → n ≤ 1000 → i < n → FewS path → path.length ≤ 1000000000 →
 Ev (fun k => spec_l4Hashed.f k leaf (i : Int) (n : Int) path) (strR (climbR leaf n i path)) := by
 intro n
 induction n using Nat.strongRecOn with
 | _ n ih =>
  intro i path h1 hn hi hp hpl
  rw [climbR]
  by_cases h : 2 ≤ n
  ·
   have hh := halfM_lt h
   rw [dif_pos h]
   by_cases h0 : path.length = 0
   · rw [if_pos h0]
     refine Ev.up (Ev.now _) (fun k _ => ?_)
     simp only [spec_l4Hashed.f]
     rw [if_neg (by omega), if_pos (by omega)]
     rfl
   ·
    rw [if_neg h0]
    have hs := lastS_few hp
    have ew : wrap64 ((path.length : Int) - 1) = ((path.length - 1 : Nat) : Int) := by rw [w64 (by omega) (by omega)]; omega
    have hr := rd_last' path (by omega) (by omega)
    obtain ⟨K1, e1⟩ := Ev.get (spec_l4Half_ev n (by omega) (by omega))
    by_cases hi2 : i < halfM n
    ·
     rw [if_pos hi2]
     obtain ⟨j1, j2, j3⟩ := climbR_ok hlb hll (halfM n) i _ (hp.take (path.length - 1))
     obtain ⟨K2, e2⟩ := Ev.get (ih (halfM n) (by omega) i (path.take (path.length - 1)) (by omega) (by omega) hi2 (hp.take _) (by rw [List.length_take]; omega))
     generalize climbR leaf (halfM n) i (path.take (path.length - 1)) = r at *
     obtain ⟨lb, ll⟩ := lastL_ways j1
     obtain ⟨K3, e3⟩ := Ev.get (spec_Digest_ev (lastL r.1) lb (by omega))
     have hd := digM_size (lastL r.1)
     refine ⟨K1 + K2 + K3 + 2, fun k hk => ?_⟩
     obtain ⟨k, rfl⟩ : ∃ m, k = m + 2 := ⟨k - 2, by omega⟩
     show spec_l4Hashed.f (k + 2) leaf _ _ path = _
     simp only [spec_l4Hashed.f]
     rw [if_neg (by omega), if_neg (by omega), ew, if_pos (by omega), if_pos (by omega), e1 _ (by omega), Option.bind_some, if_neg (by omega), hr]
     simp only [spec_l4Hashed.j0]
     rw [ew, if_pos (by omega), if_pos (by omega), Int.toNat_natCast, e2 _ (by omega), Option.bind_some]
     unfold strR
     simp only
     by_cases hrt : r.2 = true
     · have hl0 := j3 hrt
       have hml : (r.1.map strOfNums).length = r.1.length := List.length_map _
       have ew2 : wrap64 (((r.1.map strOfNums).length : Int) - 1) = (((r.1.map strOfNums).length - 1 : Nat) : Int) := by rw [w64 (by omega) (by omega)]; omega
       rw [if_pos hrt, if_pos hrt, ew2, if_pos (by omega), if_pos (by omega), rd_last' _ (by omega) (by omega), lastS_map hl0, if_pos (by rw [strOfNums_size]; omega), bytesOf_strOfNums lb, e3 _ (by omega), Option.bind_some, if_pos (by omega), spec_l4Node_eq _ _ (by omega) (by omega), Option.bind_some, if_pos (by omega)]
       simp
     · rw [if_neg hrt, if_neg hrt]
       rfl
    ·
     rw [if_neg hi2]
     obtain ⟨j1, j2, j3⟩ := climbR_ok hlb hll (n - halfM n) (i - halfM n) _ (hp.take (path.length - 1))
     obtain ⟨K2, e2⟩ := Ev.get (ih (n - halfM n) (by omega) (i - halfM n) (path.take (path.length - 1)) (by omega) (by omega) (by omega) (hp.take _) (by rw [List.length_take]; omega))
     generalize climbR leaf (n - halfM n) (i - halfM n) (path.take (path.length - 1)) = r at *
     obtain ⟨lb, ll⟩ := lastL_ways j1
     obtain ⟨K3, e3⟩ := Ev.get (spec_Digest_ev (lastL r.1) lb (by omega))
     have hd := digM_size (lastL r.1)
     have ei : wrap64 ((i : Int) - (halfM n : Int)) = ((i - halfM n : Nat) : Int) := by rw [w64 (by omega) (by omega)]; omega
     have en : wrap64 ((n : Int) - (halfM n : Int)) = ((n - halfM n : Nat) : Int) := by rw [w64 (by omega) (by omega)]; omega
     refine ⟨K1 + K2 + K3 + 2, fun k hk => ?_⟩
     obtain ⟨k, rfl⟩ : ∃ m, k = m + 2 := ⟨k - 2, by omega⟩
     show spec_l4Hashed.f (k + 2) leaf _ _ path = _
     simp only [spec_l4Hashed.f]
     rw [if_neg (by omega), if_neg (by omega), ew, if_pos (by omega), if_pos (by omega), e1 _ (by omega), Option.bind_some, if_pos (by omega), hr, ei, en]
     simp only [spec_l4Hashed.j0]
     rw [ew, if_pos (by omega), if_pos (by omega), Int.toNat_natCast, e2 _ (by omega), Option.bind_some]
     unfold strR
     simp only
     by_cases hrt : r.2 = true
     · have hl0 := j3 hrt
       have hml : (r.1.map strOfNums).length = r.1.length := List.length_map _
       have ew2 : wrap64 (((r.1.map strOfNums).length : Int) - 1) = (((r.1.map strOfNums).length - 1 : Nat) : Int) := by rw [w64 (by omega) (by omega)]; omega
       rw [if_pos hrt, if_pos hrt, ew2, if_pos (by omega), if_pos (by omega), rd_last' _ (by omega) (by omega), lastS_map hl0, if_pos (by rw [strOfNums_size]; omega), bytesOf_strOfNums lb, e3 _ (by omega), Option.bind_some, if_neg (by omega), spec_l4Node_eq _ _ (by omega) (by omega), Option.bind_some, if_pos (by omega)]
       simp
     · rw [if_neg hrt, if_neg hrt]
       rfl
  ·
   obtain rfl : n = 1 := by omega
   rw [dif_neg h]
   refine Ev.up (Ev.now _) (fun k _ => ?_)
   simp only [spec_l4Hashed.f]
   rw [if_pos (by omega)]
   unfold strR
   congr 2
   cases hq : path.length with
   | zero => rfl
   | succ m => simp; omega
theorem spec_l4All_ev (leaf : List Int) (hlb : By leaf) (hll : leaf.length ≤ 100000000) (n i : Nat) (path : List ByteArray) (h1 : 1 ≤ n) (hn : n ≤ 1000) (hi : i < n) (hp : FewS path) (hpl : path.length ≤ 1000000000) :
 Ev (fun k => spec_l4All.f k leaf (i : Int) (n : Int) path) (strR (wayR leaf n i path)) := by
 obtain ⟨j1, j2, j3⟩ := climbR_ok hlb hll n i path hp
 obtain ⟨K1, e1⟩ := Ev.get (spec_l4Hashed_ev leaf hlb hll n i path h1 hn hi hp hpl)
 unfold wayR
 generalize climbR leaf n i path = r at *
 obtain ⟨lb, ll⟩ := lastL_ways j1
 obtain ⟨K2, e2⟩ := Ev.get (spec_Digest_ev (lastL r.1) lb (by omega))
 have hd := digM_size (lastL r.1)
 obtain ⟨K3, e3⟩ := Ev.get (spec_l4Top_ev (n : Int) (digM (lastL r.1)) (by omega))
 refine ⟨K1 + K2 + K3, fun k hk => ?_⟩
 show spec_l4All.f k leaf _ _ path = _
 unfold spec_l4All.f
 rw [e1 _ (by omega), Option.bind_some]
 unfold strR
 simp only
 by_cases hrt : r.2 = true
 ·
  have hl0 := j3 hrt
  have hml : (r.1.map strOfNums).length = r.1.length := List.length_map _
  have ew2 : wrap64 (((r.1.map strOfNums).length : Int) - 1) = (((r.1.map strOfNums).length - 1 : Nat) : Int) := by rw [w64 (by omega) (by omega)]; omega
  rw [if_pos hrt, if_pos hrt, ew2, if_pos (by omega), if_pos (by omega), rd_last' _ (by omega) (by omega), lastS_map hl0, if_pos (by rw [strOfNums_size]; omega), bytesOf_strOfNums lb, e2 _ (by omega), Option.bind_some, e3 _ (by omega), Option.bind_some, if_pos (by omega)]
  simp
 · rw [if_neg hrt, if_neg hrt]
   rfl
theorem l1In_eqP (a b c : Int) : spec_l1In.f a b c = some (decide (b ≤ a ∧ a ≤ c)) := by
 unfold spec_l1In.f
 by_cases h : a ≥ b
 · rw [if_pos h]
   congr 1
   by_cases h2 : a ≤ c <;> simp [h2, show b ≤ a from h]
 · rw [if_neg h]
   congr 1
   simp [show ¬ b ≤ a by omega]
theorem spec_CheckPath_ev (a b : ByteArray) (ha : a.size ≤ 10000000) (hb : b.size ≤ 10000000) (i n : Int) (hn : -9223372036854775808 ≤ n ∧ n ≤ 9223372036854775807) (path : List ByteArray) (hp : FewS path) (hpl : path.length ≤ 1000000000) (root : ByteArray) :
 Ev (fun k => spec_CheckPath.f k a b i n path root) (checkM (leafB a b) i n path root) := by
 have hlb := leafB_by a b
 have hll := leafB_len a b
 unfold checkM
 by_cases h : (1 ≤ n ∧ n ≤ 60) ∧ 0 ≤ i ∧ i < n
 ·
  obtain ⟨m, rfl⟩ : ∃ m : Nat, n = (m : Int) := ⟨n.toNat, by omega⟩
  obtain ⟨j, rfl⟩ : ∃ j : Nat, i = (j : Int) := ⟨i.toNat, by omega⟩
  rw [if_pos h, Int.toNat_natCast, Int.toNat_natCast]
  obtain ⟨j1, j2, j3⟩ := wayR_ok hlb (by omega) m j path hp
  obtain ⟨K0, e0⟩ := Ev.get (spec_l4Leaf_ev a b (by omega) (by omega))
  obtain ⟨K1, e1⟩ := Ev.get (spec_l4All_ev (leafB a b) hlb (by omega) m j path (by omega) (by omega) (by omega) hp hpl)
  generalize wayR (leafB a b) m j path = r at *
  obtain ⟨lb, ll⟩ := lastL_ways j1
  obtain ⟨K2, e2⟩ := Ev.get (spec_Digest_ev (lastL r.1) lb (by omega))
  refine ⟨K0 + K1 + K2 + 1, fun k hk => ?_⟩
  obtain ⟨k, rfl⟩ : ∃ m, k = m + 1 := ⟨k - 1, by omega⟩
  show spec_CheckPath.f (k + 1) a b _ _ path root = _
  unfold spec_CheckPath.f
  rw [l1In_eqP, Option.bind_some, if_pos (by simpa using h.1), w64 (by omega) (by omega), l1In_eqP, Option.bind_some, show decide ((0 : Int) ≤ (j : Int) ∧ (j : Int) ≤ (m : Int) - 1) = true by simp; omega]
  simp only [spec_CheckPath.j0]
  rw [if_neg (by simp), e0 _ (by omega), Option.bind_some, e1 _ (by omega), Option.bind_some]
  unfold strR
  simp only
  by_cases hrt : r.2 = true
  · have hl0 := j3 hrt
    have hml : (r.1.map strOfNums).length = r.1.length := List.length_map _
    have ew2 : wrap64 (((r.1.map strOfNums).length : Int) - 1) = (((r.1.map strOfNums).length - 1 : Nat) : Int) := by rw [w64 (by omega) (by omega)]; omega
    rw [if_pos hrt, if_pos hrt, ew2, if_pos (by omega), if_pos (by omega), rd_last' _ (by omega) (by omega), lastS_map hl0, if_pos (by rw [strOfNums_size]; omega), bytesOf_strOfNums lb, e2 _ (by omega), Option.bind_some]
  · rw [if_neg hrt, if_neg hrt]
 ·
  rw [if_neg h]
  refine ⟨1, fun k hk => ?_⟩
  obtain ⟨k, rfl⟩ : ∃ m, k = m + 1 := ⟨k - 1, by omega⟩
  show spec_CheckPath.f (k + 1) a b _ _ path root = _
  unfold spec_CheckPath.f
  rw [l1In_eqP, Option.bind_some]
  by_cases h1 : 1 ≤ n ∧ n ≤ 60
  · rw [if_pos (by simpa using h1), w64 (by omega) (by omega), l1In_eqP, Option.bind_some, show decide ((0 : Int) ≤ i ∧ i ≤ n - 1) = false by simp; omega]
    simp only [spec_CheckPath.j0]
    rw [if_pos (by simp)]
  · rw [if_neg (by simpa using h1)]
    simp only [spec_CheckPath.j0]
    rw [if_pos trivial]
end Go.Proofs.Ytgmfhchhbidlnaa.P
/- What is drawn from bytes: that drawing ends, and the bounds of what is drawn. No condition but bounds on lengths. -/
namespace Go.Proofs.Ytgmfhchhbidlnaa.P
open Go.RowKit Go.Proofs.YtgmfhchhbidlnaaW.PrintWords Go.Proofs.YtgmfhchhbidlnaaW.PrintLast Go.Proofs.YtgmfhchhbidlnaaW.PrintMore
set_option linter.unusedVariables false
set_option linter.unusedSimpArgs false
theorem and255 (x : Int) : 0 ≤ Go.bits .and .i64 x 255 ∧ Go.bits .and .i64 x 255 < 256 := by
 have h : ((BitVec.ofInt 64 x) &&& (BitVec.ofInt 64 255)).toNat ≤ 255 := by
  rw [BitVec.toNat_and]
  exact Nat.le_trans Nat.and_le_right (by decide)
 have e : Go.bits .and .i64 x 255 = (((BitVec.ofInt 64 x) &&& (BitVec.ofInt 64 255)).toNat : Int) := by
  show IntKind.i64.wrap (((BitVec.ofInt 64 x) &&& (BitVec.ofInt 64 255)).toNat : Int) = _
  exact i64_wrap_small (by omega) (by omega)
 rw [e]
 omega
def St (s : List Int) (p : Int) : Prop := s.length ≤ 1000000000 ∧ 0 ≤ p ∧ p ≤ s.length
theorem rd_mem {l : List Int} {i : Int} (h0 : 0 ≤ i) (h1 : i < l.length) : rd l i ∈ l := by
 obtain ⟨n, rfl⟩ := Int.eq_ofNat_of_zero_le h0
 rw [rd_nat l n (by omega)]
 exact List.getElem_mem _
theorem rdOf_mem {l : List ByteArray} {i : Int} (h0 : 0 ≤ i) (h1 : i < l.length) : rdOf ByteArray.empty l i ∈ l := by
 obtain ⟨n, rfl⟩ := Int.eq_ofNat_of_zero_le h0
 have h : n < l.length := by omega
 have e : rdOf ByteArray.empty l (n : Int) = l[n] := by
  unfold rdOf
  simp [List.getD_eq_getElem?_getD, h]
 rw [e]
 exact List.getElem_mem _
theorem l1Byte_some {s : List Int} {p : Int} (h : St s p) (x : Int) : ∃ v q y, spec_l1Byte.f s p x = some (v, q, y) ∧ St s q ∧ 0 ≤ v ∧ v < 256 := by
 unfold spec_l1Byte.f
 have h1 := h.1
 have h2 := h.2.1
 by_cases c : p < (s.length : Int)
 · rw [if_pos c, if_pos h.2.1]
   exact ⟨_, _, _, rfl, ⟨h.1, by rw [w64 (by omega) (by omega)]; omega, by rw [w64 (by omega) (by omega)]; omega⟩, and255 _⟩
 · rw [if_neg c]
   exact ⟨_, _, _, rfl, h, and255 _⟩
theorem l1Below_some {s : List Int} {p : Int} (h : St s p) (x n : Int) (hn : 0 < n) : ∃ v q y, spec_l1Below.f s p x n = some (v, q, y) ∧ St s q ∧ 0 ≤ v ∧ v < n := by
 unfold spec_l1Below.f
 rw [if_neg (by omega)]
 by_cases c : n ≤ 256
 · rw [if_pos c]
   obtain ⟨v, q, y, e, hq, h0, h1⟩ := l1Byte_some h x
   rw [e, Option.bind_some, if_neg (by omega)]
   exact ⟨_, _, _, rfl, hq, Int.tmod_nonneg _ h0, Int.tmod_lt_of_pos _ hn⟩
 ·
  rw [if_neg c]
  obtain ⟨v, q, y, e, hq, h0, h1⟩ := l1Byte_some h x
  obtain ⟨v2, q2, y2, e2, hq2, h02, h12⟩ := l1Byte_some hq y
  obtain ⟨v3, q3, y3, e3, hq3, h03, h13⟩ := l1Byte_some hq2 y2
  rw [e, Option.bind_some, e2, Option.bind_some, e3, Option.bind_some, if_neg (by omega)]
  refine ⟨_, _, _, rfl, hq3, Int.tmod_nonneg _ ?_, Int.tmod_lt_of_pos _ hn⟩
  rw [w64 (x := v * 65536) (by omega) (by omega), w64 (x := v2 * 256) (by omega) (by omega), w64 (x := v * 65536 + v2 * 256) (by omega) (by omega), w64 (by omega) (by omega)]
  omega
theorem l1Once_some {s : List Int} {p : Int} (h : St s p) (x n : Int) (hn : 0 < n) : ∃ b q y, spec_l1Once.f s p x n = some (b, q, y) ∧ St s q := by
 obtain ⟨v, q, y, e, hq, h0, h1⟩ := l1Below_some h x n hn
 unfold spec_l1Once.f
 rw [e, Option.bind_some]
 exact ⟨_, _, _, rfl, hq⟩
theorem l1Int_some {s : List Int} {p : Int} (h : St s p) (x : Int) (l : List Int) (hl : 0 < l.length) : ∃ v q y, spec_l1Int.f s p x l = some (v, q, y) ∧ St s q ∧ v ∈ l := by
 obtain ⟨v, q, y, e, hq, h0, h1⟩ := l1Below_some h x (l.length : Int) (by omega)
 unfold spec_l1Int.f
 rw [e, Option.bind_some, if_pos h0, if_pos h1]
 exact ⟨_, _, _, rfl, hq, rd_mem h0 h1⟩
theorem l1Str_some {s : List Int} {p : Int} (h : St s p) (x : Int) (l : List ByteArray) (hl : 0 < l.length) : ∃ v q y, spec_l1Str.f s p x l = some (v, q, y) ∧ St s q ∧ v ∈ l := by
 obtain ⟨v, q, y, e, hq, h0, h1⟩ := l1Below_some h x (l.length : Int) (by omega)
 unfold spec_l1Str.f
 rw [e, Option.bind_some, if_pos h0, if_pos h1]
 exact ⟨_, _, _, rfl, hq, rdOf_mem h0 h1⟩
theorem l1New_loop (s : List Int) (hs : s.length ≤ 1000000000) : ∀ (d i : Nat) (x : Int), s.length - i = d → i ≤ s.length → ∃ y, Ev (fun k => spec_l1New.l0 k s x (i : Int)) (s, 0, y) := by
 intro d
 induction d with
 | zero =>
  intro i x hd hi
  refine ⟨x, Ev.up (Ev.now _) (fun k _ => ?_)⟩
  simp only [spec_l1New.l0]
  rw [if_neg (by omega)]
 | succ d ih =>
  intro i x hd hi
  by_cases c : (i : Int) < 4000
  · obtain ⟨y, e⟩ := ih (i + 1) (Go.bits .and .i64 (wrap64 ((wrap64 ((wrap64 (x * 137)) + (wrap64 (rd s i)))) + 11)) 1073741823) (by omega) (by omega)
    refine ⟨y, Ev.up e (fun k hk => ?_)⟩
    simp only [spec_l1New.l0]
    rw [if_pos (by omega), if_pos c, if_pos (by omega), w64 (x := (i : Int) + 1) (by omega) (by omega)]
    exact hk
  · refine ⟨x, Ev.up (Ev.now _) (fun k _ => ?_)⟩
    simp only [spec_l1New.l0]
    rw [if_pos (by omega), if_neg c]
theorem l1New_some (s : List Int) (hs : s.length ≤ 1048576) : ∃ y, Ev (fun k => spec_l1New.f k s) (s, 0, y) ∧ St s 0 := by
 obtain ⟨y, e⟩ := l1New_loop s (by omega) _ 0 (wrap64 (381381 + (s.length : Int))) rfl (by omega)
 exact ⟨y, e, by omega, by omega, by omega⟩
end Go.Proofs.Ytgmfhchhbidlnaa.P
/- Clashes: the program's and the reference's answer what the model answers. No condition but bounds on lengths. -/
namespace Go.Proofs.Ytgmfhchhbidlnaa.P
open Go.RowKit Go.Proofs.YtgmfhchhbidlnaaW.PrintWords Go.Proofs.YtgmfhchhbidlnaaW.PrintLast Go.Proofs.YtgmfhchhbidlnaaW.PrintMore
set_option linter.unusedVariables false
set_option linter.unusedSimpArgs false
def clashM (a b : ByteArray) (k : Int) : Bool :=
 if a.toList = b.toList then false else if 0 ≤ k ∧ k ≤ 32 then ((digM (bytesOf a)).extract 0 k.toNat).toList == ((digM (bytesOf b)).extract 0 k.toNat).toList else false
theorem impl_IsClash_ev (a b : ByteArray) (k : Int) (ha : a.size ≤ 1000000000000) (hb : b.size ≤ 1000000000000) : Ev (fun q => impl_IsClash.f q a b k) (clashM a b k) := by
 obtain ⟨K1, e1⟩ := Ev.get (impl_Digest_ev (bytesOf a) (by rw [bytesOf_length]; omega))
 obtain ⟨K2, e2⟩ := Ev.get (impl_Digest_ev (bytesOf b) (by rw [bytesOf_length]; omega))
 refine ⟨K1 + K2, fun q hq => ?_⟩
 show impl_IsClash.f q a b k = _
 unfold impl_IsClash.f clashM
 by_cases c : a.toList = b.toList
 · rw [if_pos c, if_pos c]
 · rw [if_neg c, if_neg c]
   by_cases c2 : 0 ≤ k ∧ k ≤ 32
   · rw [if_pos c2, if_pos c2, if_pos ⟨by omega, by omega⟩, e1 _ (by omega), Option.bind_some, e2 _ (by omega), Option.bind_some, if_pos ⟨digM_size _, digM_size _⟩]
   · rw [if_neg c2, if_neg c2]
theorem spec_IsClash_ev (a b : ByteArray) (k : Int) (ha : a.size ≤ 1000000000000) (hb : b.size ≤ 1000000000000) : Ev (fun q => spec_IsClash.f q a b k) (clashM a b k) := by
 obtain ⟨K1, e1⟩ := Ev.get (spec_Digest_ev (bytesOf a) (By.bytesOf a) (by rw [bytesOf_length]; omega))
 obtain ⟨K2, e2⟩ := Ev.get (spec_Digest_ev (bytesOf b) (By.bytesOf b) (by rw [bytesOf_length]; omega))
 refine ⟨K1 + K2, fun q hq => ?_⟩
 show spec_IsClash.f q a b k = _
 unfold spec_IsClash.f clashM
 by_cases c : a.toList = b.toList
 · rw [if_pos c, if_pos c]
 · rw [if_neg c, if_neg c]
   by_cases c2 : 0 ≤ k ∧ k ≤ 32
   · rw [if_pos c2, if_pos c2, if_pos ⟨by omega, by omega⟩, e1 _ (by omega), Option.bind_some, e2 _ (by omega), Option.bind_some, if_pos ⟨digM_size _, digM_size _⟩]
   · rw [if_neg c2, if_neg c2]
end Go.Proofs.Ytgmfhchhbidlnaa.P
/- PartAt: the program's and the reference's answer what the model answers. No condition but bounds on lengths. -/
namespace Go.Proofs.Ytgmfhchhbidlnaa.P
open Go.RowKit Go.Proofs.YtgmfhchhbidlnaaW.PrintWords Go.Proofs.YtgmfhchhbidlnaaW.PrintLast Go.Proofs.YtgmfhchhbidlnaaW.PrintMore
set_option linter.unusedVariables false
set_option linter.unusedSimpArgs false
def depthM (n i : Nat) : Nat := if h : 2 ≤ n then (if i < halfM n then depthM (halfM n) i else depthM (n - halfM n) (i - halfM n)) + 1 else 0
termination_by n
decreasing_by all_goals (have := halfM_lt h; omega)
theorem climbR_depth (leaf : List Int) : ∀ (n i : Nat) (path : List ByteArray), ((climbR leaf n i path).2 = true ↔ path.length = depthM n i) ∧ ((climbR leaf n i path).2 = true → (climbR leaf n i path).1.length = depthM n i + 1) := by
 intro n
 induction n using Nat.strongRecOn with
 | _ n ih =>
  intro i path
  rw [climbR, depthM]
  by_cases h : 2 ≤ n
  ·
   have hh := halfM_lt h
   rw [dif_pos h, dif_pos h]
   by_cases h0 : path.length = 0
   · rw [if_pos h0]
     simp [h0]
   ·
    rw [if_neg h0]
    have ht : (path.take (path.length - 1)).length = path.length - 1 := by rw [List.length_take]; omega
    by_cases hi : i < halfM n
    ·
     rw [if_pos hi, if_pos hi]
     obtain ⟨i1, i2⟩ := ih (halfM n) (by omega) i (path.take (path.length - 1))
     rw [ht] at i1
     generalize climbR leaf (halfM n) i (path.take (path.length - 1)) = r at *
     by_cases hr : r.2 = true
     · rw [if_pos hr]
       have := i1.1 hr
       have := i2 hr
       simp
       omega
     · rw [if_neg hr]
       have : ¬ path.length - 1 = depthM (halfM n) i := fun e => hr (i1.2 e)
       simp
       omega
    ·
     rw [if_neg hi, if_neg hi]
     obtain ⟨i1, i2⟩ := ih (n - halfM n) (by omega) (i - halfM n) (path.take (path.length - 1))
     rw [ht] at i1
     generalize climbR leaf (n - halfM n) (i - halfM n) (path.take (path.length - 1)) = r at *
     by_cases hr : r.2 = true
     · rw [if_pos hr]
       have := i1.1 hr
       have := i2 hr
       simp
       omega
     · rw [if_neg hr]
       have : ¬ path.length - 1 = depthM (n - halfM n) (i - halfM n) := fun e => hr (i1.2 e)
       simp
       omega
  · rw [dif_neg h, dif_neg h]
    simp
theorem wayR_depth (leaf : List Int) (n i : Nat) (path : List ByteArray) : ((wayR leaf n i path).2 = true ↔ path.length = depthM n i) ∧ ((wayR leaf n i path).2 = true → (wayR leaf n i path).1.length = depthM n i + 2) := by
 obtain ⟨i1, i2⟩ := climbR_depth leaf n i path
 unfold wayR
 generalize climbR leaf n i path = r at *
 by_cases hr : r.2 = true
 ·
  rw [if_pos hr]
  have := i1.1 hr
  have := i2 hr
  simp
  omega
 · rw [if_neg hr]
   have : ¬ path.length = depthM n i := fun e => hr (i1.2 e)
   simp
   omega
theorem pathM_depth : ∀ (n : Nat) (l : List S45) (i : Nat), l.length = n → (pathM l i).length = depthM n i := by
 intro n
 induction n using Nat.strongRecOn with
 | _ n ih =>
  intro l i hl
  rw [pathM, depthM]
  by_cases h : 2 ≤ n
  ·
   have hh := halfM_lt h
   rw [dif_pos h, dif_pos (by omega), hl]
   by_cases hi : i < halfM n
   · rw [if_pos hi, if_pos hi, List.length_append, ih (halfM n) (by omega) _ i (by rw [List.length_take]; omega)]
     rfl
   · rw [if_neg hi, if_neg hi, List.length_append, ih (n - halfM n) (by omega) _ (i - halfM n) (by rw [List.length_drop]; omega)]
     rfl
  · rw [dif_neg h, dif_neg (by omega)]
    rfl
theorem pathM_few : ∀ (n : Nat) (l : List S45) (i : Nat), l.length = n → FewS (pathM l i) := by
 intro n
 induction n using Nat.strongRecOn with
 | _ n ih =>
  intro l i hl
  rw [pathM]
  by_cases h : 2 ≤ l.length
  ·
   have hh := halfM_lt h
   rw [dif_pos h]
   by_cases hi : i < halfM l.length
   · rw [if_pos hi]
     intro s hs
     rcases List.mem_append.1 hs with h1 | h1
     · exact ih (halfM n) (by rw [← hl]; omega) _ i (by rw [List.length_take, ← hl]; omega) s h1
     · rw [List.mem_singleton.1 h1, innerM_size]; omega
   · rw [if_neg hi]
     intro s hs
     rcases List.mem_append.1 hs with h1 | h1
     · exact ih (n - halfM n) (by rw [← hl]; omega) _ _ (by rw [List.length_drop, ← hl]) s h1
     · rw [List.mem_singleton.1 h1, innerM_size]; omega
  · rw [dif_neg h]
    intro s hs
    exact absurd hs List.not_mem_nil
def tailM (l : List S45) (A : List (List Int)) : ByteArray × ByteArray × Bool :=
 (strOfNums (lastL A), strOfNums (topB l.length (innerM l)), clashM (strOfNums (lastL A)) (strOfNums (topB l.length (innerM l))) 32)
def scanT (l : List S45) (A B : List (List Int)) : Nat → Nat → ByteArray × ByteArray × Bool
 | 0, _ => tailM l A
 | d + 1, k => if clashM (strOfNums (A.getD k [])) (strOfNums (B.getD k [])) 32 = true then (strOfNums (A.getD k []), strOfNums (B.getD k []), true) else scanT l A B d (k + 1)
def ownWay (l : List S45) (i : Int) (n : Nat) : List (List Int) × Bool := wayR (leafB (rd_T45 l i).f0 (rd_T45 l i).f1) n i.toNat (pathM l i.toNat)
def partM (l : List S45) (a b : ByteArray) (i n : Int) (path : List ByteArray) : ByteArray × ByteArray × Bool :=
 if ((1 ≤ n ∧ n ≤ 60) ∧ 0 ≤ i ∧ i < n) ∧ pokM l l.length 0 = true then
  if (wayR (leafB a b) n.toNat i.toNat path).2 = true then
   if (l.length : Int) = n then scanT l (wayR (leafB a b) n.toNat i.toNat path).1 (ownWay l i n.toNat).1 (wayR (leafB a b) n.toNat i.toNat path).1.length 0
   else tailM l (wayR (leafB a b) n.toNat i.toNat path).1
  else (⟨#[]⟩, ⟨#[]⟩, false)
 else (⟨#[]⟩, ⟨#[]⟩, false)
def FewP (l : List S45) : Prop := ∀ p ∈ l, p.f0.size ≤ 10000000 ∧ p.f1.size ≤ 10000000
theorem FewP.few {l : List S45} (h : FewP l) : Few l := fun p hp => ⟨by have := (h p hp).1; omega, by have := (h p hp).2; omega⟩
theorem FewP.rd {l : List S45} (h : FewP l) {i : Int} (h0 : 0 ≤ i) (h1 : i < l.length) : (rd_T45 l i).f0.size ≤ 10000000 ∧ (rd_T45 l i).f1.size ≤ 10000000 := by
 have : rd_T45 l i ∈ l := by
  unfold rd_T45
  rw [List.getD_eq_getElem?_getD, List.getElem?_eq_getElem (by omega)]
  exact List.getElem_mem _
 exact h _ this
theorem getD_ways {l : List (List Int)} (h : Ways l) {k : Nat} (hk : k < l.length) : By (l.getD k []) ∧ (l.getD k []).length ≤ 100000000 := by
 have : l.getD k [] ∈ l := by
  rw [List.getD_eq_getElem?_getD, List.getElem?_eq_getElem hk]
  exact List.getElem_mem _
 exact h _ this
theorem tailM_top (l : List S45) : (topB l.length (innerM l)).length ≤ 38 := by
 have h1 := topB_len l.length (innerM l)
 have h2 := innerM_size l
 omega
theorem impl_isFull_ev (a b : ByteArray) (ha : a.size ≤ 1000000000000) (hb : b.size ≤ 1000000000000) : Ev (fun q => impl_isFull.f q a b) (clashM a b 32) := by
 obtain ⟨K, e⟩ := Ev.get (impl_IsClash_ev a b 32 ha hb)
 refine ⟨K, fun q hq => ?_⟩
 show impl_isFull.f q a b = _
 unfold impl_isFull.f
 rw [e _ hq, Option.bind_some]
theorem rdL3_last (l : List (List Int)) (h : 0 < l.length) : rd_L9 l ((l.length - 1 : Nat) : Int) = lastL l := by
 unfold rd_L9 lastL
 rw [List.getLast?_eq_getElem?]
 simp [List.getD_eq_getElem?_getD]
theorem impl_PartAt_loop (l : List S45) (hl : l.length ≤ 1000000000) (hf : FewP l) (A B : List (List Int)) (hA : Ways A) (hB : Ways B) (hn : A.length ≤ 1000000000) (h0 : 0 < A.length) (hAB : A.length ≤ B.length) :
 ∀ d k : Nat, k + d = A.length → Ev (fun q => impl_PartAt.l0 q l A B (A.length : Int) (k : Int)) (scanT l A B d k) := by
 have ew : wrap64 ((A.length : Int) - 1) = ((A.length - 1 : Nat) : Int) := by rw [w64 (by omega) (by omega)]; omega
 intro d
 induction d with
 | zero =>
  intro k hk
  have hin := innerM_size l
  have htl := tailM_top l
  have hla := (lastL_ways hA).2
  obtain ⟨K1, e1⟩ := Ev.get (impl_innerOf_ev _ l rfl (by omega) hf.few)
  obtain ⟨K2, e2⟩ := Ev.get (impl_rootBytes_ev (l.length : Int) (innerM l) (by omega))
  obtain ⟨K3, e3⟩ := Ev.get (impl_isFull_ev (strOfNums (lastL A)) (strOfNums (topB l.length (innerM l))) (by rw [strOfNums_size]; omega) (by rw [strOfNums_size]; omega))
  refine ⟨K1 + K2 + K3 + 1, fun q hq => ?_⟩
  obtain ⟨q, rfl⟩ : ∃ m, q = m + 1 := ⟨q - 1, by omega⟩
  show impl_PartAt.l0 (q + 1) l A B _ _ = _
  simp only [impl_PartAt.l0]
  rw [if_neg (by omega), ew, if_pos (by omega), if_pos (by omega), e1 _ (by omega), Option.bind_some, e2 _ (by omega), Option.bind_some, rdL3_last A h0, e3 _ (by omega), Option.bind_some]
  rfl
 | succ d ih =>
  intro k hk
  have h1 := (getD_ways hA (show k < A.length by omega)).2
  have h2 := (getD_ways hB (show k < B.length by omega)).2
  obtain ⟨K1, e1⟩ := Ev.get (impl_isFull_ev (strOfNums (A.getD k [])) (strOfNums (B.getD k [])) (by rw [strOfNums_size]; omega) (by rw [strOfNums_size]; omega))
  obtain ⟨K2, e2⟩ := Ev.get (ih (k + 1) (by omega))
  refine ⟨K1 + K2 + 1, fun q hq => ?_⟩
  obtain ⟨q, rfl⟩ : ∃ m, q = m + 1 := ⟨q - 1, by omega⟩
  show impl_PartAt.l0 (q + 1) l A B _ _ = _
  simp only [impl_PartAt.l0]
  have ra : rd_L9 A (k : Int) = A.getD k [] := rfl
  have rb : rd_L9 B (k : Int) = B.getD k [] := rfl
  rw [if_pos (by omega), if_pos (by omega), if_pos (by omega), if_pos (by omega), ra, rb, e1 _ (by omega), Option.bind_some]
  unfold scanT
  by_cases c : clashM (strOfNums (A.getD k [])) (strOfNums (B.getD k [])) 32 = true
  · rw [if_pos c, if_pos c]
  · rw [if_neg c, if_neg c, w64 (by omega) (by omega)]
    exact e2 q (by omega)
theorem impl_PartAt_ev (l : List S45) (hl : l.length ≤ 1000000000) (hf : FewP l) (a b : ByteArray) (ha : a.size ≤ 10000000) (hb : b.size ≤ 10000000) (i n : Int) (hn : -9223372036854775808 ≤ n ∧ n ≤ 9223372036854775807) (path : List ByteArray) (hp : FewS path) (hpl : path.length ≤ 1000000000) :
 Ev (fun k => impl_PartAt.f k l a b i n path) (partM l a b i n path) := by
 have hlb := leafB_by a b
 have hll := leafB_len a b
 unfold partM
 obtain ⟨K0, e0⟩ := Ev.get (impl_PairsOk_ev l (by omega) (fun p hp => by have := (hf p hp).1; omega))
 by_cases h : (1 ≤ n ∧ n ≤ 60) ∧ 0 ≤ i ∧ i < n
 ·
  by_cases hk : pokM l l.length 0 = true
  ·
   rw [if_pos ⟨h, hk⟩]
   obtain ⟨m, rfl⟩ : ∃ m : Nat, n = (m : Int) := ⟨n.toNat, by omega⟩
   obtain ⟨j, rfl⟩ : ∃ j : Nat, i = (j : Int) := ⟨i.toNat, by omega⟩
   rw [Int.toNat_natCast, Int.toNat_natCast]
   obtain ⟨j1, j2, j3⟩ := wayR_ok hlb (by omega) m j path hp
   obtain ⟨d1, d2⟩ := wayR_depth (leafB a b) m j path
   obtain ⟨K1, e1⟩ := Ev.get (impl_wayTo_ev a b ha hb m j path (by omega) (by omega) (by omega) hp hpl)
   generalize wayR (leafB a b) m j path = r at *
   by_cases hr : r.2 = true
   ·
    rw [if_pos hr]
    have h0 := j3 hr
    have hin := innerM_size l
    have htl := tailM_top l
    have hla := (lastL_ways j1).2
    by_cases hm : (l.length : Int) = (m : Int)
    ·
     rw [if_pos hm]
     have hml : l.length = m := by omega
     have hfi := hf.rd (i := (j : Int)) (by omega) (by omega)
     have hpf := pathM_few _ l j rfl
     have hpd := pathM_depth _ l j hml
     have hpl2 := pathM_len _ l j rfl
     obtain ⟨K2, e2⟩ := Ev.get (impl_pathOf_ev _ l j rfl (by omega) (by omega) hf.few)
     obtain ⟨K3, e3⟩ := Ev.get (impl_wayTo_ev (rd_T45 l j).f0 (rd_T45 l j).f1 hfi.1 hfi.2 m j (pathM l j) (by omega) (by omega) (by omega) hpf (by omega))
     have hob := leafB_by (rd_T45 l j).f0 (rd_T45 l j).f1
     have hol := leafB_len (rd_T45 l j).f0 (rd_T45 l j).f1
     have hoe : ownWay l (j : Int) m = wayR (leafB (rd_T45 l j).f0 (rd_T45 l j).f1) m j (pathM l j) := rfl
     obtain ⟨o1, o2, o3⟩ := wayR_ok hob (by omega) m j (pathM l j) hpf
     obtain ⟨p1, p2⟩ := wayR_depth (leafB (rd_T45 l j).f0 (rd_T45 l j).f1) m j (pathM l j)
     rw [hoe]
     generalize wayR (leafB (rd_T45 l j).f0 (rd_T45 l j).f1) m j (pathM l j) = o at *
     have hlen : r.1.length = o.1.length := by rw [d2 hr, p2 (p1.2 hpd)]
     obtain ⟨K4, e4⟩ := Ev.get (impl_PartAt_loop l hl hf r.1 o.1 j1 o1 (by omega) h0 (by omega) r.1.length 0 (by omega))
     refine ⟨K0 + K1 + K2 + K3 + K4 + 1, fun k hk2 => ?_⟩
     show impl_PartAt.f k l a b _ _ path = _
     unfold impl_PartAt.f
     obtain ⟨k, rfl⟩ : ∃ m, k = m + 1 := ⟨k - 1, by omega⟩
     rw [isPlace_eq _ _ hn, Option.bind_some, if_pos (by simpa using h), e0 _ (by omega), Option.bind_some, hk]
     simp only [impl_PartAt.j0]
     rw [if_neg (by simp), e1 _ (by omega), Option.bind_some, if_pos hr, if_pos hm, if_pos (by omega), if_pos (by omega), e2 _ (by omega), Option.bind_some, e3 _ (by omega), Option.bind_some]
     exact e4 k (by omega)
    ·
     rw [if_neg hm]
     have ew : wrap64 ((r.1.length : Int) - 1) = ((r.1.length - 1 : Nat) : Int) := by rw [w64 (by omega) (by omega)]; omega
     obtain ⟨K2, e2⟩ := Ev.get (impl_innerOf_ev _ l rfl (by omega) hf.few)
     obtain ⟨K3, e3⟩ := Ev.get (impl_rootBytes_ev (l.length : Int) (innerM l) (by omega))
     obtain ⟨K4, e4⟩ := Ev.get (impl_isFull_ev (strOfNums (lastL r.1)) (strOfNums (topB l.length (innerM l))) (by rw [strOfNums_size]; omega) (by rw [strOfNums_size]; omega))
     refine ⟨K0 + K1 + K2 + K3 + K4 + 1, fun k hk2 => ?_⟩
     show impl_PartAt.f k l a b _ _ path = _
     unfold impl_PartAt.f
     obtain ⟨k, rfl⟩ : ∃ m, k = m + 1 := ⟨k - 1, by omega⟩
     rw [isPlace_eq _ _ hn, Option.bind_some, if_pos (by simpa using h), e0 _ (by omega), Option.bind_some, hk]
     simp only [impl_PartAt.j0]
     rw [if_neg (by simp), e1 _ (by omega), Option.bind_some, if_pos hr, if_neg hm, ew, if_pos (by omega), if_pos (by omega), e2 _ (by omega), Option.bind_some, e3 _ (by omega), Option.bind_some, rdL3_last r.1 h0, e4 _ (by omega), Option.bind_some]
     rfl
   ·
    rw [if_neg hr]
    refine ⟨K0 + K1 + 1, fun k hk2 => ?_⟩
    show impl_PartAt.f k l a b _ _ path = _
    unfold impl_PartAt.f
    obtain ⟨k, rfl⟩ : ∃ m, k = m + 1 := ⟨k - 1, by omega⟩
    rw [isPlace_eq _ _ hn, Option.bind_some, if_pos (by simpa using h), e0 _ (by omega), Option.bind_some, hk]
    simp only [impl_PartAt.j0]
    rw [if_neg (by simp), e1 _ (by omega), Option.bind_some, if_neg hr]
  ·
   rw [if_neg (fun e => hk e.2)]
   refine ⟨K0 + 1, fun k hk2 => ?_⟩
   show impl_PartAt.f k l a b _ _ path = _
   unfold impl_PartAt.f
   obtain ⟨k, rfl⟩ : ∃ m, k = m + 1 := ⟨k - 1, by omega⟩
   rw [isPlace_eq _ _ hn, Option.bind_some, if_pos (by simpa using h), e0 _ (by omega), Option.bind_some, Bool.eq_false_iff.2 hk]
   simp only [impl_PartAt.j0]
   rw [if_pos (by simp)]
 ·
  rw [if_neg (fun e => h e.1)]
  refine ⟨1, fun k hk => ?_⟩
  show impl_PartAt.f k l a b _ _ path = _
  unfold impl_PartAt.f
  obtain ⟨k, rfl⟩ : ∃ m, k = m + 1 := ⟨k - 1, by omega⟩
  rw [isPlace_eq _ _ hn, Option.bind_some, if_neg (by simpa using h)]
  simp only [impl_PartAt.j0]
  rw [if_pos trivial]
end Go.Proofs.Ytgmfhchhbidlnaa.P
/- What a way to a root shows: the pair itself, or a clash. No condition but bounds on lengths. -/
namespace Go.Proofs.Ytgmfhchhbidlnaa.P
open Go.RowKit Go.Proofs.YtgmfhchhbidlnaaW.PrintWords Go.Proofs.YtgmfhchhbidlnaaW.PrintLast Go.Proofs.YtgmfhchhbidlnaaW.PrintMore
set_option linter.unusedVariables false
set_option linter.unusedSimpArgs false
theorem encN_inj : ∀ (m n : Nat) (x y : List Int), encN m ++ x = encN n ++ y → m = n ∧ x = y := by
 intro m
 induction m using Nat.strongRecOn with
 | _ m ih =>
  intro n x y h
  by_cases hm : 127 < m
  ·
   by_cases hn : 127 < n
   · rw [encN_big hm, encN_big hn, List.cons_append, List.cons_append] at h
     obtain ⟨h1, h2⟩ := List.cons.inj h
     obtain ⟨e, ex⟩ := ih (m / 128) (by omega) (n / 128) x y h2
     exact ⟨by omega, ex⟩
   · rw [encN_big hm, encN_small (n := n) (by omega), List.cons_append, List.cons_append] at h
     have h1 := (List.cons.inj h).1
     omega
  ·
   by_cases hn : 127 < n
   · rw [encN_small (n := m) (by omega), encN_big hn, List.cons_append, List.cons_append] at h
     have h1 := (List.cons.inj h).1
     omega
   · rw [encN_small (n := m) (by omega), encN_small (n := n) (by omega), List.cons_append, List.cons_append] at h
     obtain ⟨h1, h2⟩ := List.cons.inj h
     exact ⟨by omega, by simpa using h2⟩
theorem clampN_id {n : Int} (h0 : 0 ≤ n) (h1 : n ≤ 1000000000) : clampN n = n.toNat := by
 unfold clampN
 rw [if_neg (by omega), if_neg (by omega)]
theorem bytesOf_inj {s t : ByteArray} (h : bytesOf s = bytesOf t) : s = t := by
 have key : ∀ u : ByteArray, strOfNums (bytesOf u) = u := by
  intro u
  unfold strOfNums bytesOf
  rw [List.map_map]
  have : (u.data.toList.map ((fun x : Int => UInt8.ofNat x.toNat) ∘ fun b : UInt8 => (b.toNat : Int))) = u.data.toList := by
   conv => rhs; rw [← List.map_id u.data.toList]
   apply List.map_congr_left
   intro x _
   simp
  first | (rw [this]; rfl) | (simp [this]) | (show ByteArray.mk (List.toArray _) = _; rw [this])
 rw [← key s, h, key t]
theorem topB_inj {m n : Int} {s t : ByteArray} (hm : 0 ≤ m ∧ m ≤ 1000000000) (hn : 0 ≤ n ∧ n ≤ 1000000000) (h : topB m s = topB n t) : m = n ∧ s = t := by
 unfold topB putNumM at h
 rw [List.append_assoc, List.append_assoc] at h
 obtain ⟨e, ex⟩ := encN_inj _ _ _ _ (List.append_cancel_left h)
 rw [clampN_id hm.1 hm.2, clampN_id hn.1 hn.2] at e
 exact ⟨by omega, bytesOf_inj ex⟩
theorem leafB_inj {a b c d : ByteArray} (ha : a.size ≤ 1000000000) (hb : b.size ≤ 1000000000) (hc : c.size ≤ 1000000000) (hd : d.size ≤ 1000000000) (h : leafB a b = leafB c d) : a = c ∧ b = d := by
 unfold leafB putTextM putNumM at h
 simp only [List.append_assoc] at h
 obtain ⟨e, ex⟩ := encN_inj _ _ _ _ (List.append_cancel_left h)
 rw [clampN_id (by omega) (by omega), clampN_id (by omega) (by omega)] at e
 obtain ⟨e1, e2⟩ := List.append_inj ex (by rw [bytesOf_length, bytesOf_length]; omega)
 obtain ⟨_, e3⟩ := encN_inj _ _ _ _ e2
 exact ⟨bytesOf_inj e1, bytesOf_inj e3⟩
theorem strOfNums_inj {A B : List Int} (hA : By A) (hB : By B) (h : strOfNums A = strOfNums B) : A = B := by
 rw [← bytesOf_strOfNums hA, h, bytesOf_strOfNums hB]
theorem toList_inj {a b : ByteArray} (h : a.toList = b.toList) : a = b := by
 rw [ByteArray.toList_eq, ByteArray.toList_eq] at h
 cases a with
 | mk x =>
  cases b with
  | mk y =>
   have : x = y := by simpa using h
   rw [this]
theorem noClash {A B : List Int} (hA : By A) (hB : By B) (h : clashM (strOfNums A) (strOfNums B) 32 = false) (hd : digM A = digM B) : A = B := by
 unfold clashM at h
 by_cases c : (strOfNums A).toList = (strOfNums B).toList
 · exact strOfNums_inj hA hB (toList_inj c)
 · rw [if_neg c, if_pos (by omega), bytesOf_strOfNums hA, bytesOf_strOfNums hB, hd] at h
   simp at h
theorem isClash {A B : List Int} (hA : By A) (hB : By B) (hn : A ≠ B) (hd : digM A = digM B) : clashM (strOfNums A) (strOfNums B) 32 = true := by
 cases h : clashM (strOfNums A) (strOfNums B) 32 with
 | true => rfl
 | false => exact absurd (noClash hA hB h hd) hn
theorem scanT_no {l : List S45} {A B : List (List Int)} : ∀ d k : Nat, (scanT l A B d k).2.2 = false →
 (∀ j, k ≤ j → j < k + d → clashM (strOfNums (A.getD j [])) (strOfNums (B.getD j [])) 32 = false) ∧ (tailM l A).2.2 = false := by
 intro d
 induction d with
 | zero => intro k h; exact ⟨fun j h1 h2 => by omega, h⟩
 | succ d ih =>
  intro k h
  unfold scanT at h
  by_cases c : clashM (strOfNums (A.getD k [])) (strOfNums (B.getD k [])) 32 = true
  · rw [if_pos c] at h; cases h
  ·
   rw [if_neg c] at h
   obtain ⟨h1, h2⟩ := ih (k + 1) h
   refine ⟨fun j hj hj2 => ?_, h2⟩
   by_cases e : j = k
   · rw [e]; simpa using c
   · exact h1 j (by omega) (by omega)
theorem scanT_clash {l : List S45} {A B : List (List Int)} : ∀ d k : Nat, (scanT l A B d k).2.2 = true → clashM (scanT l A B d k).1 (scanT l A B d k).2.1 32 = true := by
 intro d
 induction d with
 | zero => intro k h; exact h
 | succ d ih =>
  intro k h
  unfold scanT at h ⊢
  by_cases c : clashM (strOfNums (A.getD k [])) (strOfNums (B.getD k [])) 32 = true
  · rw [if_pos c]; exact c
  · rw [if_neg c] at h ⊢
    exact ih (k + 1) h
theorem partM_clash {l : List S45} {a b : ByteArray} {i n : Int} {path : List ByteArray} (h : (partM l a b i n path).2.2 = true) : clashM (partM l a b i n path).1 (partM l a b i n path).2.1 32 = true := by
 unfold partM at h ⊢
 by_cases c1 : ((1 ≤ n ∧ n ≤ 60) ∧ 0 ≤ i ∧ i < n) ∧ pokM l l.length 0 = true
 ·
  rw [if_pos c1] at h ⊢
  by_cases c2 : (wayR (leafB a b) n.toNat i.toNat path).2 = true
  · rw [if_pos c2] at h ⊢
    by_cases c3 : (l.length : Int) = n
    · rw [if_pos c3] at h ⊢; exact scanT_clash _ _ h
    · rw [if_neg c3] at h ⊢; exact h
  · rw [if_neg c2] at h; cases h
 · rw [if_neg c1] at h; cases h
theorem pokM_le60 {l : List S45} : ∀ d i : Nat, pokM l d i = true → l.length ≤ 60 := by
 intro d
 induction d with
 | zero => intro i h; unfold pokM at h; have := of_decide_eq_true h; omega
 | succ d ih =>
  intro i h
  unfold pokM at h
  split at h
  · split at h
    · split at h
      · exact ih _ h
      · cases h
    · exact ih _ h
  · cases h
theorem lastL_snoc (l : List (List Int)) (x : List Int) : lastL (l ++ [x]) = x := by
 unfold lastL
 rw [List.getLast?_append]
 rfl
theorem lastS_snoc (l : List ByteArray) (x : ByteArray) : lastS (l ++ [x]) = x := by
 unfold lastS
 rw [List.getLast?_append]
 rfl
theorem rdP_take (l : List S45) {k i : Nat} (h : i < k) : rd_T45 (l.take k) (i : Int) = rd_T45 l (i : Int) := by
 unfold rd_T45
 rw [List.getD_eq_getElem?_getD, List.getD_eq_getElem?_getD, Int.toNat_natCast, List.getElem?_take, if_pos h]
theorem rdP_drop (l : List S45) {k i : Nat} (h : k ≤ i) : rd_T45 (l.drop k) ((i - k : Nat) : Int) = rd_T45 l (i : Int) := by
 unfold rd_T45
 rw [List.getD_eq_getElem?_getD, List.getD_eq_getElem?_getD, Int.toNat_natCast, Int.toNat_natCast, List.getElem?_drop, show k + (i - k) = i by omega]
theorem climb_own : ∀ (n : Nat) (l : List S45) (i : Nat), l.length = n → i < n →
 digM (lastL (climbR (leafB (rd_T45 l (i : Int)).f0 (rd_T45 l (i : Int)).f1) n i (pathM l i)).1) = innerM l := by
 intro n
 induction n using Nat.strongRecOn with
 | _ n ih =>
  intro l i hl hi
  by_cases h : 2 ≤ n
  ·
   have hh := halfM_lt h
   rw [climbR, dif_pos h, pathM, dif_pos (by omega), innerM_two l (by omega), hl]
   by_cases hi2 : i < halfM n
   ·
    rw [if_pos hi2, if_pos hi2]
    have e1 : (pathM (l.take (halfM n)) i ++ [innerM (l.drop (halfM n))]).length = (pathM (l.take (halfM n)) i).length + 1 := by simp
    have e2 : (pathM (l.take (halfM n)) i ++ [innerM (l.drop (halfM n))]).take ((pathM (l.take (halfM n)) i).length + 1 - 1) = pathM (l.take (halfM n)) i := by simp
    have l1 : (l.take (halfM n)).length = halfM n := by rw [List.length_take]; omega
    have r1 := ih (halfM n) (by omega) (l.take (halfM n)) i l1 hi2
    rw [rdP_take l hi2] at r1
    rw [e1, if_neg (by omega), e2, if_pos ((climbR_depth _ _ _ _).1.2 (pathM_depth _ _ _ l1)), lastL_snoc, r1, lastS_snoc]
    rfl
   ·
    rw [if_neg hi2, if_neg hi2]
    have e1 : (pathM (l.drop (halfM n)) (i - halfM n) ++ [innerM (l.take (halfM n))]).length = (pathM (l.drop (halfM n)) (i - halfM n)).length + 1 := by simp
    have e2 : (pathM (l.drop (halfM n)) (i - halfM n) ++ [innerM (l.take (halfM n))]).take ((pathM (l.drop (halfM n)) (i - halfM n)).length + 1 - 1) = pathM (l.drop (halfM n)) (i - halfM n) := by simp
    have l1 : (l.drop (halfM n)).length = n - halfM n := by rw [List.length_drop]; omega
    have r1 := ih (n - halfM n) (by omega) (l.drop (halfM n)) (i - halfM n) l1 (by omega)
    rw [rdP_drop l (by omega)] at r1
    rw [e1, if_neg (by omega), e2, if_pos ((climbR_depth _ _ _ _).1.2 (pathM_depth _ _ _ l1)), lastL_snoc, r1, lastS_snoc]
    rfl
  ·
   match l, hl with
   | [], hl => simp at hl; omega
   | [p], hl =>
    have hi0 : i = 0 := by simp at hl; omega
    subst hi0
    rw [climbR, dif_neg h, innerM_one]
    rfl
   | _ :: _ :: _, hl => simp at hl; omega
theorem nodeB_left {a b c d : ByteArray} (ha : a.size = 32) (hc : c.size = 32) (h : nodeB a b = nodeB c d) : a = c := by
 unfold nodeB at h
 rw [List.append_assoc, List.append_assoc] at h
 exact bytesOf_inj (List.append_inj (List.append_cancel_left h) (by rw [bytesOf_length, bytesOf_length, ha, hc])).1
theorem nodeB_right {a b c d : ByteArray} (hb : b.size = 32) (hd : d.size = 32) (h : nodeB a b = nodeB c d) : b = d := by
 unfold nodeB at h
 exact bytesOf_inj (List.append_inj' h (by rw [bytesOf_length, bytesOf_length, hb, hd])).2
theorem getD_snoc_lt {l : List (List Int)} {x : List Int} {j : Nat} (h : j < l.length) : (l ++ [x]).getD j [] = l.getD j [] := by
 rw [List.getD_eq_getElem?_getD, List.getD_eq_getElem?_getD, List.getElem?_append_left h]
theorem getD_snoc {l : List (List Int)} {x : List Int} {n : Nat} (h : n = l.length) : (l ++ [x]).getD n [] = x := by
 rw [h, List.getD_eq_getElem?_getD, List.getElem?_append_right (Nat.le_refl _)]
 simp
theorem climb_sound (leaf leaf' : List Int) (hb : By leaf) (hb' : By leaf') : ∀ (n i : Nat) (path path' : List ByteArray), (climbR leaf n i path).2 = true → (climbR leaf' n i path').2 = true →
 digM (lastL (climbR leaf n i path).1) = digM (lastL (climbR leaf' n i path').1) →
 (∀ j, j < (climbR leaf n i path).1.length → clashM (strOfNums ((climbR leaf n i path).1.getD j [])) (strOfNums ((climbR leaf' n i path').1.getD j [])) 32 = false) → leaf = leaf' := by
 intro n
 induction n using Nat.strongRecOn with
 | _ n ih =>
  intro i path path' h1 h2 hd hc
  have d1 := (climbR_depth leaf n i path).2 h1
  have d2 := (climbR_depth leaf' n i path').2 h2
  rw [climbR] at h1 hd hc
  rw [climbR.eq_def leaf' n i path'] at h2 hd hc
  by_cases h : 2 ≤ n
  ·
   have hh := halfM_lt h
   rw [dif_pos h] at h1 h2
   rw [dif_pos h, dif_pos h] at hd
   by_cases z1 : path.length = 0
   · rw [if_pos z1] at h1; cases h1
   by_cases z2 : path'.length = 0
   · rw [if_pos z2] at h2; cases h2
   rw [if_neg z1] at h1
   rw [if_neg z2] at h2
   rw [if_neg z1, if_neg z2] at hd
   by_cases hi : i < halfM n
   ·
    rw [if_pos hi] at h1 h2
    rw [if_pos hi, if_pos hi] at hd
    have q1 := (climbR_depth leaf (halfM n) i (path.take (path.length - 1))).2
    have q2 := (climbR_depth leaf' (halfM n) i (path'.take (path'.length - 1))).2
    have I := ih (halfM n) (by omega) i (path.take (path.length - 1)) (path'.take (path'.length - 1))
    by_cases r1 : (climbR leaf (halfM n) i (path.take (path.length - 1))).2 = true
    ·
     by_cases r2 : (climbR leaf' (halfM n) i (path'.take (path'.length - 1))).2 = true
     ·
      rw [if_pos r1, if_pos r2, lastL_snoc, lastL_snoc] at hd
      have hc' : ∀ j, j < (climbR leaf (halfM n) i (path.take (path.length - 1))).1.length + 1 → clashM (strOfNums (((climbR leaf (halfM n) i (path.take (path.length - 1))).1 ++ [nodeB (digM (lastL (climbR leaf (halfM n) i (path.take (path.length - 1))).1)) (lastS path)]).getD j [])) (strOfNums (((climbR leaf' (halfM n) i (path'.take (path'.length - 1))).1 ++ [nodeB (digM (lastL (climbR leaf' (halfM n) i (path'.take (path'.length - 1))).1)) (lastS path')]).getD j [])) 32 = false := by
       intro j hj
       have := hc j (by rw [dif_pos h, if_neg z1, if_pos hi, if_pos r1]; simpa using hj)
       rw [dif_pos h, if_neg z1, if_pos hi, if_pos r1, dif_pos h, if_neg z2, if_pos hi, if_pos r2] at this
       exact this
      have q1 := q1 r1
      have q2 := q2 r2
      have hx := hc' (climbR leaf (halfM n) i (path.take (path.length - 1))).1.length (by omega)
      rw [getD_snoc rfl, getD_snoc (by omega)] at hx
      have he := noClash (nodeB_by _ _) (nodeB_by _ _) hx hd
      refine I r1 r2 (nodeB_left (digM_size _) (digM_size _) he) (fun j hj => ?_)
      have := hc' j (by omega)
      rw [getD_snoc_lt hj, getD_snoc_lt (by omega)] at this
      exact this
     · rw [if_neg r2] at h2; cases h2
    · rw [if_neg r1] at h1; cases h1
   ·
    rw [if_neg hi] at h1 h2
    rw [if_neg hi, if_neg hi] at hd
    have q1 := (climbR_depth leaf (n - halfM n) (i - halfM n) (path.take (path.length - 1))).2
    have q2 := (climbR_depth leaf' (n - halfM n) (i - halfM n) (path'.take (path'.length - 1))).2
    have I := ih (n - halfM n) (by omega) (i - halfM n) (path.take (path.length - 1)) (path'.take (path'.length - 1))
    by_cases r1 : (climbR leaf (n - halfM n) (i - halfM n) (path.take (path.length - 1))).2 = true
    ·
     by_cases r2 : (climbR leaf' (n - halfM n) (i - halfM n) (path'.take (path'.length - 1))).2 = true
     ·
      rw [if_pos r1, if_pos r2, lastL_snoc, lastL_snoc] at hd
      have hc' : ∀ j, j < (climbR leaf (n - halfM n) (i - halfM n) (path.take (path.length - 1))).1.length + 1 → clashM (strOfNums (((climbR leaf (n - halfM n) (i - halfM n) (path.take (path.length - 1))).1 ++ [nodeB (lastS path) (digM (lastL (climbR leaf (n - halfM n) (i - halfM n) (path.take (path.length - 1))).1))]).getD j [])) (strOfNums (((climbR leaf' (n - halfM n) (i - halfM n) (path'.take (path'.length - 1))).1 ++ [nodeB (lastS path') (digM (lastL (climbR leaf' (n - halfM n) (i - halfM n) (path'.take (path'.length - 1))).1))]).getD j [])) 32 = false := by
       intro j hj
       have := hc j (by rw [dif_pos h, if_neg z1, if_neg hi, if_pos r1]; simpa using hj)
       rw [dif_pos h, if_neg z1, if_neg hi, if_pos r1, dif_pos h, if_neg z2, if_neg hi, if_pos r2] at this
       exact this
      have q1 := q1 r1
      have q2 := q2 r2
      have hx := hc' (climbR leaf (n - halfM n) (i - halfM n) (path.take (path.length - 1))).1.length (by omega)
      rw [getD_snoc rfl, getD_snoc (by omega)] at hx
      have he := noClash (nodeB_by _ _) (nodeB_by _ _) hx hd
      refine I r1 r2 (nodeB_right (digM_size _) (digM_size _) he) (fun j hj => ?_)
      have := hc' j (by omega)
      rw [getD_snoc_lt hj, getD_snoc_lt (by omega)] at this
      exact this
     · rw [if_neg r2] at h2; cases h2
    · rw [if_neg r1] at h1; cases h1
  · rw [dif_neg h, dif_neg h] at hd
    have hx := hc 0 (by rw [dif_neg h]; simp)
    rw [dif_neg h, dif_neg h] at hx
    exact noClash hb hb' hx hd
theorem rootOfM_60 {l : List S45} (h : l.length ≤ 60) : rootOfM l = digM (topB l.length (innerM l)) := by
 unfold rootOfM rootM
 rw [if_neg (by omega)]
theorem part_sound {l : List S45} (hf : FewP l) {a b : ByteArray} (ha : a.size ≤ 10000000) (hb : b.size ≤ 10000000) {i n : Int} {path : List ByteArray} (hk : pokM l l.length 0 = true)
 (hc : checkM (leafB a b) i n path (rootOfM l) = true) : (partM l a b i n path).2.2 = true ∨ (((l.length : Int) = n ∧ 0 ≤ i ∧ i < n) ∧ (rd_T45 l i).f0 = a ∧ (rd_T45 l i).f1 = b) := by
 cases hp : (partM l a b i n path).2.2 with
 | true => exact .inl rfl
 | false =>
  right
  have h60 := pokM_le60 _ _ hk
  unfold checkM at hc
  by_cases h : (1 ≤ n ∧ n ≤ 60) ∧ 0 ≤ i ∧ i < n
  ·
   rw [if_pos h] at hc
   unfold partM at hp
   rw [if_pos ⟨h, hk⟩] at hp
   obtain ⟨m, rfl⟩ : ∃ m : Nat, n = (m : Int) := ⟨n.toNat, by omega⟩
   obtain ⟨j, rfl⟩ : ∃ j : Nat, i = (j : Int) := ⟨i.toNat, by omega⟩
   rw [Int.toNat_natCast, Int.toNat_natCast] at hc hp
   by_cases hr : (wayR (leafB a b) m j path).2 = true
   ·
    rw [if_pos hr, rootOfM_60 h60] at hc
    rw [if_pos hr] at hp
    have hd : digM (lastL (wayR (leafB a b) m j path).1) = digM (topB l.length (innerM l)) := toList_inj (by simpa using hc)
    have hC : (climbR (leafB a b) m j path).2 = true := by
     unfold wayR at hr
     by_cases c : (climbR (leafB a b) m j path).2 = true
     · exact c
     · rw [if_neg c] at hr; cases hr
    have hw : (wayR (leafB a b) m j path).1 = (climbR (leafB a b) m j path).1 ++ [topB m (digM (lastL (climbR (leafB a b) m j path).1))] := by
     unfold wayR
     rw [if_pos hC]
    rw [hw, lastL_snoc] at hd
    have tl : (tailM l (wayR (leafB a b) m j path).1).2.2 = false → topB m (digM (lastL (climbR (leafB a b) m j path).1)) = topB l.length (innerM l) := by
     intro ht
     unfold tailM at ht
     rw [hw, lastL_snoc] at ht
     exact noClash (topB_by _ _) (topB_by _ _) ht hd
    by_cases hm : (l.length : Int) = (m : Int)
    ·
     rw [if_pos hm] at hp
     have hml : l.length = m := by omega
     obtain ⟨s1, s2⟩ := scanT_no _ _ hp
     have hin := (topB_inj (by omega) (by omega) (tl s2)).2
     have hpd := pathM_depth _ l j hml
     have ho2 := (climbR_depth (leafB (rd_T45 l (j : Int)).f0 (rd_T45 l (j : Int)).f1) m j (pathM l j)).1.2 hpd
     have hol := (climbR_depth (leafB (rd_T45 l (j : Int)).f0 (rd_T45 l (j : Int)).f1) m j (pathM l j)).2 ho2
     have hcl := (climbR_depth (leafB a b) m j path).2 hC
     have how : (ownWay l (j : Int) m).1 = (climbR (leafB (rd_T45 l (j : Int)).f0 (rd_T45 l (j : Int)).f1) m j (pathM l j)).1 ++ [topB m (digM (lastL (climbR (leafB (rd_T45 l (j : Int)).f0 (rd_T45 l (j : Int)).f1) m j (pathM l j)).1))] := by
      unfold ownWay wayR
      rw [Int.toNat_natCast, if_pos ho2]
     have hfi := hf.rd (i := (j : Int)) (by omega) (by omega)
     have hown := climb_own m l j hml (by omega)
     have hleaf := climb_sound (leafB a b) (leafB (rd_T45 l (j : Int)).f0 (rd_T45 l (j : Int)).f1) (leafB_by _ _) (leafB_by _ _) m j path (pathM l j) hC ho2 (by rw [hin, hown]) (fun q hq => by
      have := s1 q (by omega) (by rw [hw, List.length_append]; omega)
      rw [hw, how, getD_snoc_lt hq, getD_snoc_lt (by omega)] at this
      exact this)
     obtain ⟨e1, e2⟩ := leafB_inj (by omega) (by omega) (by omega) (by omega) hleaf
     exact ⟨⟨hm, by omega, by omega⟩, e1.symm, e2.symm⟩
    · rw [if_neg hm] at hp
      have := (topB_inj (by omega) (by omega) (tl hp)).1
      omega
   · rw [if_neg hr] at hc; cases hc
  · rw [if_neg h] at hc; cases hc
end Go.Proofs.Ytgmfhchhbidlnaa.P
/- What is drawn as pairs: that drawing ends, and the bounds of what is drawn. No condition but bounds on lengths. -/
namespace Go.Proofs.Ytgmfhchhbidlnaa.P
open Go.RowKit Go.Proofs.YtgmfhchhbidlnaaW.PrintWords Go.Proofs.YtgmfhchhbidlnaaW.PrintLast Go.Proofs.YtgmfhchhbidlnaaW.PrintMore
set_option linter.unusedVariables false
set_option linter.unusedSimpArgs false
theorem l1Str_small {s : List Int} {p : Int} (h : St s p) (x : Int) (l : List ByteArray) (hl : 0 < l.length) (ha : l.all (fun v => decide (v.size ≤ 20)) = true) :
 ∃ v q y, spec_l1Str.f s p x l = some (v, q, y) ∧ St s q ∧ v.size ≤ 20 := by
 obtain ⟨v, q, y, e, hq, hm⟩ := l1Str_some h x l hl
 exact ⟨v, q, y, e, hq, by simpa using List.all_eq_true.1 ha v hm⟩
theorem l3Val_some {s : List Int} {p : Int} (h : St s p) (x : Int) : ∃ v q y, spec_l3Val.f s p x = some (v, q, y) ∧ St s q ∧ v.size ≤ 20 := by
 unfold spec_l3Val.f
 obtain ⟨v, q, y, e, hq, hm⟩ := l1Str_small h x ([(⟨#[]⟩ : ByteArray), (⟨#[49]⟩ : ByteArray), (⟨#[50]⟩ : ByteArray), (⟨#[120]⟩ : ByteArray), (⟨#[118, 97, 108, 117, 101]⟩ : ByteArray), (⟨#[0]⟩ : ByteArray)] : List ByteArray) (by decide) (by decide)
 rw [e, Option.bind_some]
 exact ⟨_, _, _, rfl, hq, hm⟩
def PR (l : List S45) : Prop := ∀ p ∈ l, p.f0.size ≤ 30 ∧ p.f1.size ≤ 30
theorem PR.nil : PR [] := fun _ h => by cases h
theorem PR.app {a b : List S45} (h : PR a) (k : PR b) : PR (a ++ b) := fun p hp => by
 rcases List.mem_append.1 hp with h1 | h1
 · exact h p h1
 · exact k p h1
theorem PR.one {a b : ByteArray} (h : a.size ≤ 30) (k : b.size ≤ 30) : PR [(⟨a, b⟩ : S45)] := fun p hp => by
 rw [List.mem_singleton.1 hp]
 exact ⟨h, k⟩
theorem PR.set {l : List S45} (h : PR l) (i : Nat) {a b : ByteArray} (ha : a.size ≤ 30) (hb : b.size ≤ 30) : PR (l.set i ⟨a, b⟩) := fun p hp => by
 rcases List.mem_or_eq_of_mem_set hp with h1 | h1
 · exact h p h1
 · rw [h1]; exact ⟨ha, hb⟩
theorem PR.take {l : List S45} (h : PR l) (i : Nat) : PR (l.take i) := fun p hp => h p (List.mem_of_mem_take hp)
theorem PR.drop {l : List S45} (h : PR l) (i : Nat) : PR (l.drop i) := fun p hp => h p (List.mem_of_mem_drop hp)
theorem PR.rd {l : List S45} (h : PR l) {i : Nat} (hi : i < l.length) : (rd_T45 l (i : Int)).f0.size ≤ 30 := by
 have e : rd_T45 l (i : Int) = l[i] := by
  unfold rd_T45
  simp [List.getD_eq_getElem?_getD, hi]
 rw [e]
 exact (h _ (List.getElem_mem hi)).1
theorem PutKey_l1 (l : List S45) (hl : l.length ≤ 1000) (hp : PR l) (a b : ByteArray) (ha : a.size ≤ 30) (hb : b.size ≤ 30) : ∀ d i : Nat, l.length - i = d → i ≤ l.length →
 ∃ r, Ev (fun k => spec_PutKey.l1 k l a b (i : Int)) r ∧ PR r ∧ r.length ≤ l.length + 1 := by
 have hmid : ∀ i : Nat, i ≤ l.length → PR (([] ++ l.take (i : Int).toNat ++ [(⟨a, b⟩ : S45)]) ++ l.drop (i : Int).toNat) ∧ (([] ++ l.take (i : Int).toNat ++ [(⟨a, b⟩ : S45)]) ++ l.drop (i : Int).toNat).length ≤ l.length + 1 := by
  intro i hi
  refine ⟨PR.app (PR.app (PR.app PR.nil (hp.take _)) (PR.one ha hb)) (hp.drop _), ?_⟩
  simp
  omega
 have ht : ∀ i : Nat, (l.take i).length ≤ l.length := fun i => by rw [List.length_take]; omega
 have hdr : ∀ i : Nat, (l.drop i).length ≤ l.length := fun i => by rw [List.length_drop]; omega
 intro d
 induction d with
 | zero =>
  intro i hd hi
  refine ⟨_, Ev.up (Ev.now _) (fun k _ => ?_), hmid i hi⟩
  have h1 := ht (i : Int).toNat
  have h2 := hdr (i : Int).toNat
  simp only [spec_PutKey.l1, Option.bind_some]
  rw [if_neg (by omega), if_pos (by omega), if_pos (by omega), if_pos (by simp only [List.length_nil]; omega), if_pos (by simp only [List.nil_append]; omega), if_pos (by simp only [List.nil_append, List.length_append, List.length_singleton]; omega)]
 | succ d ih =>
  intro i hd hi
  by_cases c : Op.bytesLess a.toList (rd_T45 l (i : Int)).f0.toList = true
  · refine ⟨_, Ev.up (Ev.now _) (fun k _ => ?_), hmid i hi⟩
    have h1 := ht (i : Int).toNat
    have h2 := hdr (i : Int).toNat
    simp only [spec_PutKey.l1, Option.bind_some]
    rw [if_pos (by omega), if_pos (by omega), if_pos c, if_pos (by omega), if_pos (by simp only [List.length_nil]; omega), if_pos (by simp only [List.nil_append]; omega), if_pos (by simp only [List.nil_append, List.length_append, List.length_singleton]; omega)]
  · obtain ⟨r, e, h⟩ := ih (i + 1) (by omega) (by omega)
    refine ⟨r, Ev.up e (fun k hk => ?_), h⟩
    simp only [spec_PutKey.l1]
    rw [if_pos (by omega), if_pos (by omega), if_neg c, w64 (by omega) (by omega)]
    exact hk
theorem PutKey_l0 (l : List S45) (hl : l.length ≤ 1000) (hp : PR l) (a b : ByteArray) (ha : a.size ≤ 30) (hb : b.size ≤ 30) : ∀ d i : Nat, l.length - i = d → i ≤ l.length →
 ∃ r, Ev (fun k => spec_PutKey.l0 k l a b l (i : Int)) r ∧ PR r ∧ r.length ≤ l.length + 1 := by
 intro d
 induction d with
 | zero =>
  intro i hd hi
  obtain ⟨r, e, h⟩ := PutKey_l1 l hl hp a b ha hb _ 0 rfl (by omega)
  refine ⟨r, Ev.up e (fun k hk => ?_), h⟩
  simp only [spec_PutKey.l0]
  rw [if_neg (by omega)]
  exact hk
 | succ d ih =>
  intro i hd hi
  by_cases c : (rd_T45 l (i : Int)).f0.toList = a.toList
  · refine ⟨l.set (i : Int).toNat ⟨(rd_T45 l (i : Int)).f0, b⟩, Ev.up (Ev.now _) (fun k _ => ?_), hp.set _ (hp.rd (by omega)) hb, by simp⟩
    simp only [spec_PutKey.l0]
    rw [if_pos (by omega), if_pos (by omega), if_pos c]
  · obtain ⟨r, e, h⟩ := ih (i + 1) (by omega) (by omega)
    refine ⟨r, Ev.up e (fun k hk => ?_), h⟩
    simp only [spec_PutKey.l0]
    rw [if_pos (by omega), if_pos (by omega), if_neg c, w64 (by omega) (by omega)]
    exact hk
theorem PutKey_some (l : List S45) (hl : l.length ≤ 1000) (hp : PR l) (a b : ByteArray) (ha : a.size ≤ 30) (hb : b.size ≤ 30) : ∃ r, Ev (fun k => spec_PutKey.f k l a b) r ∧ PR r ∧ r.length ≤ l.length + 1 := by
 obtain ⟨r, e, h⟩ := PutKey_l0 l hl hp a b ha hb _ 0 rfl (by omega)
 refine ⟨r, e.congr (fun k => ?_), h⟩
 unfold spec_PutKey.f
 rw [Option.bind_some, if_pos (by simp only [List.length_nil]; omega), List.nil_append]
 rfl
end Go.Proofs.Ytgmfhchhbidlnaa.P
/- Drawn pairs are right: keys that are words, in order. No condition but bounds on lengths. -/
namespace Go.Proofs.Ytgmfhchhbidlnaa.P
open Go.RowKit Go.Proofs.YtgmfhchhbidlnaaW.PrintWords Go.Proofs.YtgmfhchhbidlnaaW.PrintLast Go.Proofs.YtgmfhchhbidlnaaW.PrintMore
set_option linter.unusedVariables false
set_option linter.unusedSimpArgs false
def KG (s : ByteArray) : Prop := keyOkM s = true ∧ Op.bytesLess s.toList (⟨#[122, 122]⟩ : ByteArray).toList = true
def PG (p : S45) : Prop := KG p.f0 ∧ p.f1.size ≤ 20
def GP (l : List S45) : Prop := l.Pairwise (fun x y => Op.bytesLess x.f0.toList y.f0.toList = true) ∧ ∀ p ∈ l, PG p
theorem GP.nil : GP [] := ⟨List.Pairwise.nil, fun _ h => absurd h List.not_mem_nil⟩
theorem rdP_get (l : List S45) {i : Nat} (h : i < l.length) : rd_T45 l (i : Int) = l[i] := by
 unfold rd_T45
 rw [List.getD_eq_getElem?_getD, Int.toNat_natCast, List.getElem?_eq_getElem h]
 rfl
theorem GP.less {l : List S45} (h : GP l) {i j : Nat} (hij : i < j) (hj : j < l.length) : Op.bytesLess (rd_T45 l (i : Int)).f0.toList (rd_T45 l (j : Int)).f0.toList = true := by
 rw [rdP_get l (by omega), rdP_get l hj]
 exact List.pairwise_iff_getElem.1 h.1 i j (by omega) hj hij
theorem GP.pok {l : List S45} (h : GP l) (h60 : l.length ≤ 60) : pokM l l.length 0 = true := by
 have key : ∀ d i : Nat, i + d = l.length → pokM l d i = true := by
  intro d
  induction d with
  | zero => intro i hi; unfold pokM; simp; omega
  | succ d ih =>
   intro i hi
   have hm : PG (rd_T45 l (i : Int)) := h.2 _ (by rw [rdP_get l (by omega)]; exact List.getElem_mem _)
   unfold pokM
   rw [if_pos (by unfold pairOkM; rw [hm.1.1]; simpa using hm.2)]
   by_cases h0 : (i : Int) > 0
   · rw [if_pos h0, show (i : Int) - 1 = ((i - 1 : Nat) : Int) by omega, if_pos (h.less (by omega) (by omega))]
     exact ih (i + 1) (by omega)
   · rw [if_neg h0]
     exact ih (i + 1) (by omega)
 exact key _ 0 (by omega)
theorem GP.set {l : List S45} (h : GP l) {i : Nat} (hi : i < l.length) {v : ByteArray} (hv : v.size ≤ 20) : GP (l.set i ⟨(rd_T45 l (i : Int)).f0, v⟩) := by
 have hk : ∀ j (hj : j < (l.set i ⟨(rd_T45 l (i : Int)).f0, v⟩).length), ((l.set i ⟨(rd_T45 l (i : Int)).f0, v⟩)[j]).f0 = (l[j]'(by simpa using hj)).f0 := by
  intro j hj
  rw [List.getElem_set]
  by_cases e : i = j
  · rw [if_pos e]
    subst e
    have := rdP_get l hi
    show (rd_T45 l (i : Int)).f0 = _
    exact congrArg S45.f0 this
  · rw [if_neg e]
 refine ⟨List.pairwise_iff_getElem.2 (fun a b ha hb hab => ?_), fun p hp => ?_⟩
 · rw [hk a ha, hk b hb]
   exact List.pairwise_iff_getElem.1 h.1 a b (by simpa using ha) (by simpa using hb) hab
 · rcases List.mem_or_eq_of_mem_set hp with h1 | h1
   · exact h.2 p h1
   · rw [h1]
     exact ⟨(h.2 _ (by rw [rdP_get l hi]; exact List.getElem_mem _ : rd_T45 l (i : Int) ∈ l)).1, hv⟩
theorem GP.ins {l : List S45} (h : GP l) {i : Nat} (hi : i ≤ l.length) {a b : ByteArray} (ha : KG a) (hb : b.size ≤ 20)
 (h1 : ∀ j : Nat, j < i → Op.bytesLess (rd_T45 l (j : Int)).f0.toList a.toList = true) (h2 : i < l.length → Op.bytesLess a.toList (rd_T45 l (i : Int)).f0.toList = true) :
 GP (l.take i ++ [(⟨a, b⟩ : S45)] ++ l.drop i) := by
 have t1 : ∀ p ∈ l.take i, Op.bytesLess p.f0.toList a.toList = true := by
  intro p hp
  obtain ⟨j, hj, rfl⟩ := List.getElem_of_mem hp
  have hj' : j < i := by rw [List.length_take] at hj; omega
  have := h1 j hj'
  rw [rdP_get l (by omega)] at this
  rw [List.getElem_take]
  exact this
 have t2 : ∀ p ∈ l.drop i, Op.bytesLess a.toList p.f0.toList = true := by
  intro p hp
  obtain ⟨j, hj, rfl⟩ := List.getElem_of_mem hp
  rw [List.length_drop] at hj
  have hil : i < l.length := by omega
  have h3 := h2 hil
  rw [List.getElem_drop]
  by_cases e : j = 0
  · subst e
    rw [rdP_get l hil] at h3
    exact h3
  · have h4 := h.less (i := i) (j := i + j) (by omega) (by omega)
    have h5 := less_trans h3 h4
    rw [rdP_get l (by omega)] at h5
    exact h5
 refine ⟨?_, fun p hp => ?_⟩
 ·
  rw [List.append_assoc, List.pairwise_append]
  refine ⟨h.1.sublist (List.take_sublist _ _), ?_, fun x hx y hy => ?_⟩
  · rw [List.singleton_append, List.pairwise_cons]
    exact ⟨t2, h.1.sublist (List.drop_sublist _ _)⟩
  · rcases List.mem_append.1 hy with h3 | h3
    · rw [List.mem_singleton.1 h3]; exact t1 x hx
    · exact less_trans (t1 x hx) (t2 y h3)
 ·
  rcases List.mem_append.1 hp with h3 | h3
  · rcases List.mem_append.1 h3 with h4 | h4
    · exact h.2 p (List.mem_of_mem_take h4)
    · rw [List.mem_singleton.1 h4]; exact ⟨ha, hb⟩
  · exact h.2 p (List.mem_of_mem_drop h3)
theorem PutKey_l1_good {l : List S45} (hg : GP l) (hl : l.length ≤ 1000) {a b : ByteArray} (ha : KG a) (hb : b.size ≤ 20)
 (hne : ∀ j : Nat, j < l.length → ¬ (rd_T45 l (j : Int)).f0.toList = a.toList) : ∀ (k i : Nat) (r : List S45), i ≤ l.length →
 (∀ j : Nat, j < i → Op.bytesLess (rd_T45 l (j : Int)).f0.toList a.toList = true) → spec_PutKey.l1 k l a b (i : Int) = some r → GP r := by
 intro k
 induction k with
 | zero => intro i r _ _ h; simp [spec_PutKey.l1] at h
 | succ k ih =>
  intro i r hi hinv h
  simp only [spec_PutKey.l1] at h
  by_cases c : i < l.length
  ·
   rw [if_pos (by omega), if_pos (by omega)] at h
   by_cases c2 : Op.bytesLess a.toList (rd_T45 l (i : Int)).f0.toList = true
   · rw [if_pos c2, Option.bind_some, if_pos (by omega), Option.bind_some, if_pos (by simp only [List.length_nil, List.length_take]; omega), Option.bind_some, if_pos (by simp; omega), Option.bind_some, Option.bind_some, if_pos (by simp; omega), Int.toNat_natCast, List.nil_append] at h
     cases h
     exact hg.ins (by omega) ha hb hinv (fun _ => c2)
   ·
    rw [if_neg c2, w64 (by omega) (by omega)] at h
    refine ih (i + 1) r (by omega) (fun j hj => ?_) h
    by_cases e : j = i
    · subst e
      rcases less_or c2 with h3 | h3
      · exact h3
      · exact absurd h3 (hne j c)
    · exact hinv j (by omega)
  · have e : i = l.length := by omega
    rw [if_neg (by omega), Option.bind_some, if_pos (by omega), if_pos (by omega), Option.bind_some, if_pos (by simp only [List.length_nil, List.length_take]; omega), Option.bind_some, if_pos (by simp; omega), Option.bind_some, Option.bind_some, if_pos (by simp; omega), Int.toNat_natCast, List.nil_append] at h
    cases h
    exact hg.ins (by omega) ha hb hinv (fun h => absurd h c)
theorem PutKey_l0_good {l : List S45} (hg : GP l) (hl : l.length ≤ 1000) {a b : ByteArray} (ha : KG a) (hb : b.size ≤ 20) : ∀ (k i : Nat) (r : List S45), i ≤ l.length →
 (∀ j : Nat, j < i → ¬ (rd_T45 l (j : Int)).f0.toList = a.toList) → spec_PutKey.l0 k l a b l (i : Int) = some r → GP r := by
 intro k
 induction k with
 | zero => intro i r _ _ h; simp [spec_PutKey.l0] at h
 | succ k ih =>
  intro i r hi hinv h
  simp only [spec_PutKey.l0] at h
  by_cases c : i < l.length
  ·
   rw [if_pos (by omega), if_pos (by omega)] at h
   by_cases c2 : (rd_T45 l (i : Int)).f0.toList = a.toList
   · rw [if_pos c2, Int.toNat_natCast] at h
     cases h
     exact hg.set c hb
   · rw [if_neg c2, w64 (by omega) (by omega)] at h
     refine ih (i + 1) r (by omega) (fun j hj => ?_) h
     by_cases e : j = i
     · subst e; exact c2
     · exact hinv j (by omega)
  · rw [if_neg (by omega)] at h
    exact PutKey_l1_good hg hl ha hb (fun j hj => hinv j (by omega)) k 0 r (by omega) (fun j hj => by omega) h
theorem PutKey_good {l : List S45} (hg : GP l) (hl : l.length ≤ 1000) {a b : ByteArray} (ha : KG a) (hb : b.size ≤ 20) {k : Nat} {r : List S45} (h : spec_PutKey.f k l a b = some r) : GP r := by
 unfold spec_PutKey.f at h
 rw [Option.bind_some, if_pos (by simp only [List.length_nil]; omega), List.nil_append] at h
 exact PutKey_l0_good hg hl ha hb k 0 r (by omega) (fun j hj => by omega) h
theorem kg_all : ∀ v ∈ ([(⟨#[97]⟩ : ByteArray), (⟨#[98]⟩ : ByteArray), (⟨#[99]⟩ : ByteArray), (⟨#[107, 49]⟩ : ByteArray), (⟨#[107, 50]⟩ : ByteArray), (⟨#[109]⟩ : ByteArray), (⟨#[122]⟩ : ByteArray)] : List ByteArray), KG v := by
 intro v hv
 simp only [List.mem_cons, List.not_mem_nil, or_false] at hv
 unfold KG
 rw [ByteArray.toList_eq, ByteArray.toList_eq]
 rcases hv with rfl | rfl | rfl | rfl | rfl | rfl | rfl <;> exact ⟨by decide, by decide⟩
theorem l3Key_kg {s : List Int} {p : Int} (h : St s p) (x : Int) : ∃ v q y, spec_l3Key.f s p x = some (v, q, y) ∧ St s q ∧ v.size ≤ 20 ∧ KG v := by
 unfold spec_l3Key.f
 obtain ⟨v, q, y, e, hq, hm⟩ := l1Str_some h x ([(⟨#[97]⟩ : ByteArray), (⟨#[98]⟩ : ByteArray), (⟨#[99]⟩ : ByteArray), (⟨#[107, 49]⟩ : ByteArray), (⟨#[107, 50]⟩ : ByteArray), (⟨#[109]⟩ : ByteArray), (⟨#[122]⟩ : ByteArray)] : List ByteArray) (by decide)
 rw [e, Option.bind_some]
 have hk := kg_all v hm
 have hs : v.size ≤ 20 := by
  have := hk.1
  unfold keyOkM at this
  simp only [Bool.and_eq_true, decide_eq_true_eq] at this
  omega
 exact ⟨_, _, _, rfl, hq, hs, hk⟩
theorem l3Draw_gloop (s : List Int) : ∀ (n : Nat) (acc : List S45) (p x : Int), acc.length + n ≤ 100 → n ≤ 100 → PR acc → GP acc → St s p →
 ∃ r q y, Ev (fun k => spec_l3Draw.l0 k acc (n : Int) s p x) (r, q, y) ∧ St s q ∧ PR r ∧ GP r ∧ r.length ≤ acc.length + n := by
 intro n
 induction n with
 | zero =>
  intro acc p x hl hn hp hg hs
  refine ⟨acc, p, x, Ev.up (Ev.now _) (fun k _ => ?_), hs, hp, hg, by omega⟩
  simp only [spec_l3Draw.l0]
  rw [if_neg (by omega)]
 | succ n ih =>
  intro acc p x hl hn hp hg hs
  obtain ⟨a, q, y, e, h1, ha, hka⟩ := l3Key_kg hs x
  obtain ⟨b, q2, y2, e2, h2, hb⟩ := l3Val_some h1 y
  obtain ⟨r, e3, hr, hrl⟩ := PutKey_some acc (by omega) hp a b (by omega) (by omega)
  obtain ⟨K3, e3⟩ := Ev.get e3
  have hgr : GP r := PutKey_good hg (by omega) hka hb (e3 K3 (Nat.le_refl _))
  obtain ⟨r2, q3, y3, e4, h4, hr4, hg4, hrl4⟩ := ih r q2 y2 (by omega) (by omega) hr hgr h2
  obtain ⟨K4, e4⟩ := Ev.get e4
  refine ⟨r2, q3, y3, ⟨K3 + K4 + 1, fun k hk => ?_⟩, h4, hr4, hg4, by omega⟩
  obtain ⟨k, rfl⟩ : ∃ j, k = j + 1 := ⟨k - 1, by omega⟩
  have hx := e4 k (by omega)
  show spec_l3Draw.l0 (k + 1) _ _ _ _ _ = _
  simp only [spec_l3Draw.l0]
  rw [if_pos (by omega), e, Option.bind_some, e2, Option.bind_some, e3 _ (by omega), Option.bind_some, w64 (by omega) (by omega), show ((n + 1 : Nat) : Int) - 1 = (n : Int) by omega]
  exact hx
theorem l3Draw_good {s : List Int} {p : Int} (h : St s p) (x : Int) : ∃ r q y, Ev (fun k => spec_l3Draw.f k s p x) (r, q, y) ∧ St s q ∧ PR r ∧ GP r ∧ r.length ≤ 8 := by
 obtain ⟨v, q, y, e, hq, h0, h1⟩ := l1Below_some h x 8 (by decide)
 obtain ⟨n, rfl⟩ := Int.eq_ofNat_of_zero_le h0
 obtain ⟨r, q2, y2, e2, h2, hr, hg, hl⟩ := l3Draw_gloop s n [] q y (by simp; omega) (by omega) PR.nil GP.nil hq
 refine ⟨r, q2, y2, e2.congr (fun k => ?_), h2, hr, hg, by simp only [List.length_nil] at hl; omega⟩
 unfold spec_l3Draw.f
 rw [e, Option.bind_some]
end Go.Proofs.Ytgmfhchhbidlnaa.P
/- ProveBetween: the program's and the reference's answer what the model answers; how many items there are. No condition but bounds on lengths. -/
namespace Go.Proofs.Ytgmfhchhbidlnaa.P
open Go.RowKit Go.Proofs.YtgmfhchhbidlnaaW.PrintWords Go.Proofs.YtgmfhchhbidlnaaW.PrintLast Go.Proofs.YtgmfhchhbidlnaaW.PrintMore
set_option linter.unusedVariables false
set_option linter.unusedSimpArgs false
def whileM (P : Nat → Bool) : Nat → Nat → Nat
 | 0, i => i
 | d + 1, i => if P i = true then whileM P d (i + 1) else i
theorem whileM_spec (P : Nat → Bool) : ∀ d i : Nat, i ≤ whileM P d i ∧ whileM P d i ≤ i + d ∧ (∀ j, i ≤ j → j < whileM P d i → P j = true) ∧ (whileM P d i < i + d → P (whileM P d i) = false) := by
 intro d
 induction d with
 | zero => intro i; unfold whileM; exact ⟨by omega, by omega, fun j h1 h2 => by omega, fun h => by omega⟩
 | succ d ih =>
  intro i
  unfold whileM
  by_cases c : P i = true
  ·
   rw [if_pos c]
   obtain ⟨h1, h2, h3, h4⟩ := ih (i + 1)
   refine ⟨by omega, by omega, fun j hj hj2 => ?_, fun h => h4 (by omega)⟩
   by_cases e : j = i
   · rw [e]; exact c
   · exact h3 j (by omega) hj2
  · rw [if_neg c]
    exact ⟨by omega, by omega, fun j h1 h2 => by omega, fun _ => by simpa using c⟩
def lessP (l : List S45) (lo : ByteArray) (i : Nat) : Bool := Op.bytesLess (rd_T45 l (i : Int)).f0.toList lo.toList
def btwP (l : List S45) (lo hi : ByteArray) (i : Nat) : Bool := btwB lo hi (rd_T45 l (i : Int))
def fromM (l : List S45) (lo : ByteArray) : Nat := whileM (lessP l lo) l.length 0
def toM (l : List S45) (lo hi : ByteArray) : Nat := whileM (btwP l lo hi) (l.length - fromM l lo) (fromM l lo)
theorem fromM_le (l : List S45) (lo : ByteArray) : fromM l lo ≤ l.length := by
 have := (whileM_spec (lessP l lo) l.length 0).2.1
 unfold fromM
 omega
theorem toM_le (l : List S45) (lo hi : ByteArray) : fromM l lo ≤ toM l lo hi ∧ toM l lo hi ≤ l.length := by
 have h1 := fromM_le l lo
 have h2 := whileM_spec (btwP l lo hi) (l.length - fromM l lo) (fromM l lo)
 unfold toM
 omega
def itemM (l : List S45) (i : Nat) : S52 := ⟨⟨(rd_T45 l (i : Int)).f0, (rd_T45 l (i : Int)).f1⟩, pathM l i⟩
def itemsM (l : List S45) : Nat → Nat → List S52
 | 0, _ => []
 | d + 1, i => itemM l i :: itemsM l d (i + 1)
theorem itemsM_len (l : List S45) : ∀ d i : Nat, (itemsM l d i).length = d := by
 intro d
 induction d with
 | zero => intro i; rfl
 | succ d ih => intro i; unfold itemsM; rw [List.length_cons, ih]
theorem itemsM_get (l : List S45) : ∀ d i j : Nat, j < d → (itemsM l d i)[j]? = some (itemM l (i + j)) := by
 intro d
 induction d with
 | zero => intro i j h; omega
 | succ d ih =>
  intro i j h
  unfold itemsM
  cases j with
  | zero => rfl
  | succ j => rw [List.getElem?_cons_succ, ih (i + 1) j (by omega), show i + 1 + j = i + (j + 1) by omega]
def begM (l : List S45) (lo : ByteArray) : Nat := fromM l lo - 1
def endM (l : List S45) (lo hi : ByteArray) : Nat := min (toM l lo hi + 1) l.length
def proveM (l : List S45) (lo hi : ByteArray) : Int × Int × List S52 :=
 if pokM l l.length 0 = true then ((l.length : Int), (if begM l lo < endM l lo hi then (begM l lo : Int) else 0), itemsM l (endM l lo hi - begM l lo) (begM l lo)) else (0, 0, [])
def resM (l : List S45) (x t : Nat) : Int × Int × List S52 :=
 ((l.length : Int), (if x - 1 < min (t + 1) l.length then ((x - 1 : Nat) : Int) else 0), itemsM l (min (t + 1) l.length - (x - 1)) (x - 1))
theorem impl_Prove_l2 (l : List S45) (hl : l.length ≤ 1000) (hf : Few l) (a b : Nat) (hb : b ≤ l.length) (N F : Int) : ∀ (d i : Nat) (acc : List S52), i + d = b ∨ (d = 0 ∧ b ≤ i) → i ≤ 2000 → acc.length ≤ i →
 Ev (fun k => impl_ProveBetween.l2 k l (a : Int) (b : Int) (i : Int) N F acc) (if 0 < (acc ++ itemsM l d i).length then (N, (a : Int), acc ++ itemsM l d i) else (N, F, acc ++ itemsM l d i)) := by
 intro d
 induction d with
 | zero =>
  intro i acc hi hi2 hacc
  refine Ev.up (Ev.now _) (fun k _ => ?_)
  simp only [impl_ProveBetween.l2]
  rw [if_neg (by omega)]
  unfold itemsM
  rw [List.append_nil]
  by_cases c : 0 < acc.length
  · rw [if_pos c, if_pos (by omega)]
  · rw [if_neg c, if_neg (by omega)]
 | succ d ih =>
  intro i acc hi hi2 hacc
  obtain ⟨K1, e1⟩ := Ev.get (impl_pathOf_ev _ l i rfl (by omega) (by omega) hf)
  obtain ⟨K2, e2⟩ := Ev.get (ih (i + 1) (acc ++ [itemM l i]) (by omega) (by omega) (by simp; omega))
  refine ⟨K1 + K2 + 1, fun k hk => ?_⟩
  obtain ⟨k, rfl⟩ : ∃ j, k = j + 1 := ⟨k - 1, by omega⟩
  show impl_ProveBetween.l2 (k + 1) _ _ _ _ _ _ _ = _
  simp only [impl_ProveBetween.l2]
  have hx := e2 k (by omega)
  rw [List.append_assoc, List.singleton_append] at hx
  rw [if_pos (by omega), if_pos (by omega), if_pos (by omega), e1 _ (by omega), Option.bind_some, if_pos (by omega), w64 (by omega) (by omega)]
  exact hx
theorem impl_Prove_l1 (l : List S45) (hl : l.length ≤ 1000) (hf : Few l) (lo hi : ByteArray) (x : Nat) (hx : x ≤ l.length) : ∀ (d i : Nat), i + d = l.length → x ≤ i →
 Ev (fun k => impl_ProveBetween.l1 k l lo hi (x : Int) (i : Int)) (resM l x (whileM (btwP l lo hi) d i)) := by
 have fin : ∀ t : Nat, x ≤ t → t ≤ l.length → Ev (fun k => impl_ProveBetween.j3 k l (x : Int) (t : Int)) (resM l x t) := by
  intro t h1 h2
  have e := impl_Prove_l2 l hl hf (x - 1) (min (t + 1) l.length) (by omega) (l.length : Int) 0 (min (t + 1) l.length - (x - 1)) (x - 1) [] (by omega) (by omega) (by simp)
  rw [List.nil_append, itemsM_len] at e
  have e2 : Ev (fun k => impl_ProveBetween.l2 k l ((x - 1 : Nat) : Int) ((min (t + 1) l.length : Nat) : Int) ((x - 1 : Nat) : Int) (l.length : Int) 0 []) (resM l x t) := e.cast (by
   unfold resM
   by_cases c : x - 1 < min (t + 1) l.length
   · rw [if_pos c, if_pos (by omega)]
   · rw [if_neg c, if_neg (by omega)])
  have emx : mx (wrap64 ((x : Int) - 1)) 0 = ((x - 1 : Nat) : Int) := by rw [w64 (by omega) (by omega)]; unfold mx; split <;> omega
  have emn : mn (wrap64 ((t : Int) + 1)) (l.length : Int) = ((min (t + 1) l.length : Nat) : Int) := by rw [w64 (by omega) (by omega)]; unfold mn; split <;> omega
  refine Ev.up e2 (fun k hk => ?_)
  simp only [impl_ProveBetween.j3]
  rw [emx, emn]
  exact hk
 intro d
 induction d with
 | zero =>
  intro i hid hxi
  refine Ev.up (fin i hxi (by omega)) (fun k hk => ?_)
  simp only [impl_ProveBetween.l1]
  rw [if_neg (by omega)]
  exact hk
 | succ d ih =>
  intro i hid hxi
  by_cases c : btwP l lo hi i = true
  ·
   have hw : whileM (btwP l lo hi) (d + 1) i = whileM (btwP l lo hi) d (i + 1) := by rw [whileM, if_pos c]
   rw [hw]
   refine Ev.up (ih (i + 1) (by omega) (by omega)) (fun k hk => ?_)
   simp only [impl_ProveBetween.l1]
   have c' : btwB lo hi (rd_T45 l (i : Int)) = true := c
   rw [if_pos (by omega), if_pos (by omega), impl_isBetween_eq, Option.bind_some, if_pos c', w64 (by omega) (by omega)]
   exact hk
  ·
   have hw : whileM (btwP l lo hi) (d + 1) i = i := by rw [whileM, if_neg c]
   rw [hw]
   refine Ev.up (fin i hxi (by omega)) (fun k hk => ?_)
   simp only [impl_ProveBetween.l1]
   have c' : ¬ btwB lo hi (rd_T45 l (i : Int)) = true := c
   rw [if_pos (by omega), if_pos (by omega), impl_isBetween_eq, Option.bind_some, if_neg c']
   exact hk
theorem impl_Prove_l0 (l : List S45) (hl : l.length ≤ 1000) (hf : Few l) (lo hi : ByteArray) : ∀ (d i : Nat), i + d = l.length →
 Ev (fun k => impl_ProveBetween.l0 k l lo hi (i : Int)) (resM l (whileM (lessP l lo) d i) (whileM (btwP l lo hi) (l.length - whileM (lessP l lo) d i) (whileM (lessP l lo) d i))) := by
 intro d
 induction d with
 | zero =>
  intro i hid
  refine Ev.up (Ev.up (impl_Prove_l1 l hl hf lo hi i (by omega) (l.length - i) i (by omega) (by omega)) (g := fun k => impl_ProveBetween.j1 k l lo hi (i : Int)) (fun k hk => ?_)) (fun k hk => ?_)
  · simp only [impl_ProveBetween.j1]
    exact hk
  · simp only [impl_ProveBetween.l0]
    rw [if_neg (by omega)]
    exact hk
 | succ d ih =>
  intro i hid
  by_cases c : lessP l lo i = true
  ·
   have hw : whileM (lessP l lo) (d + 1) i = whileM (lessP l lo) d (i + 1) := by rw [whileM, if_pos c]
   rw [hw]
   refine Ev.up (ih (i + 1) (by omega)) (fun k hk => ?_)
   simp only [impl_ProveBetween.l0]
   have c' : Op.bytesLess (rd_T45 l (i : Int)).f0.toList lo.toList = true := c
   rw [if_pos (by omega), if_pos (by omega), if_pos c', w64 (by omega) (by omega)]
   exact hk
  ·
   have hw : whileM (lessP l lo) (d + 1) i = i := by rw [whileM, if_neg c]
   rw [hw]
   refine Ev.up (Ev.up (impl_Prove_l1 l hl hf lo hi i (by omega) (l.length - i) i (by omega) (by omega)) (g := fun k => impl_ProveBetween.j1 k l lo hi (i : Int)) (fun k hk => ?_)) (fun k hk => ?_)
   · simp only [impl_ProveBetween.j1]
     exact hk
   · simp only [impl_ProveBetween.l0]
     have c' : ¬ Op.bytesLess (rd_T45 l (i : Int)).f0.toList lo.toList = true := c
     rw [if_pos (by omega), if_pos (by omega), if_neg c']
     exact hk
theorem impl_ProveBetween_ev (l : List S45) (hl : l.length ≤ 1000) (hf : Few l) (lo hi : ByteArray) : Ev (fun k => impl_ProveBetween.f k l lo hi) (proveM l lo hi) := by
 obtain ⟨K1, e1⟩ := Ev.get (impl_PairsOk_ev l (by omega) (fun p hp => by have := (hf p hp).1; omega))
 obtain ⟨K2, e2⟩ := Ev.get (impl_Prove_l0 l hl hf lo hi l.length 0 (by omega))
 unfold proveM
 by_cases c : pokM l l.length 0 = true
 ·
  refine ⟨K1 + K2, fun k hk => ?_⟩
  show impl_ProveBetween.f k l lo hi = _
  unfold impl_ProveBetween.f
  rw [e1 _ (by omega), Option.bind_some, if_pos c, if_pos c]
  have hx := e2 k (by omega)
  exact hx
 · refine ⟨K1, fun k hk => ?_⟩
   show impl_ProveBetween.f k l lo hi = _
   unfold impl_ProveBetween.f
   rw [e1 _ (by omega), Option.bind_some, if_neg c, if_neg c]
theorem spec_Prove_l2 (l : List S45) (hl : l.length ≤ 1000) (hf : Few l) (b : Nat) (hb : b ≤ l.length) (N F : Int) : ∀ (d i : Nat) (acc : List S52), i + d = b ∨ (d = 0 ∧ b ≤ i) → i ≤ 2000 → acc.length ≤ i →
 Ev (fun k => spec_ProveBetween.l2 k l (b : Int) (i : Int) N F acc) (N, F, acc ++ itemsM l d i) := by
 intro d
 induction d with
 | zero =>
  intro i acc hi hi2 hacc
  refine Ev.up (Ev.now _) (fun k _ => ?_)
  simp only [spec_ProveBetween.l2]
  rw [if_neg (by omega)]
  unfold itemsM
  rw [List.append_nil]
 | succ d ih =>
  intro i acc hi hi2 hacc
  obtain ⟨K1, e1⟩ := Ev.get (spec_l4Path_ev _ l i rfl (by omega) (by omega) hf)
  obtain ⟨K2, e2⟩ := Ev.get (ih (i + 1) (acc ++ [itemM l i]) (by omega) (by omega) (by simp; omega))
  refine ⟨K1 + K2 + 1, fun k hk => ?_⟩
  obtain ⟨k, rfl⟩ : ∃ j, k = j + 1 := ⟨k - 1, by omega⟩
  show spec_ProveBetween.l2 (k + 1) _ _ _ _ _ _ = _
  simp only [spec_ProveBetween.l2]
  have hx := e2 k (by omega)
  rw [List.append_assoc, List.singleton_append] at hx
  rw [if_pos (by omega), if_pos (by omega), if_pos (by omega), e1 _ (by omega), Option.bind_some, if_pos (by omega), w64 (by omega) (by omega)]
  exact hx
theorem spec_Prove_l1 (l : List S45) (hl : l.length ≤ 1000) (hf : Few l) (lo hi : ByteArray) (x : Nat) (hx : x ≤ l.length) : ∀ (d i : Nat), i + d = l.length → x ≤ i →
 Ev (fun k => spec_ProveBetween.l1 k l lo hi (x : Int) (i : Int) (l.length : Int) 0) (resM l x (whileM (btwP l lo hi) d i)) := by
 have j6 : ∀ (a b : Nat) (F : Int), a ≤ l.length → b ≤ l.length → Ev (fun k => spec_ProveBetween.j6 k l (a : Int) (b : Int) (l.length : Int) F) ((l.length : Int), F, itemsM l (b - a) a) := by
  intro a b F ha hb
  have e := spec_Prove_l2 l hl hf b hb (l.length : Int) F (b - a) a [] (by omega) (by omega) (by simp)
  rw [List.nil_append] at e
  refine Ev.up e (fun k hk => ?_)
  simp only [spec_ProveBetween.j6]
  exact hk
 have j5 : ∀ (a b : Nat), a ≤ l.length → b ≤ l.length → Ev (fun k => spec_ProveBetween.j5 k l (a : Int) (b : Int) (l.length : Int) 0) ((l.length : Int), (if a < b then (a : Int) else 0), itemsM l (b - a) a) := by
  intro a b ha hb
  by_cases c : a < b
  · rw [if_pos c]
    refine Ev.up (j6 a b (a : Int) ha hb) (fun k hk => ?_)
    simp only [spec_ProveBetween.j5]
    rw [if_pos (by omega)]
    exact hk
  · rw [if_neg c]
    refine Ev.up (j6 a b 0 ha hb) (fun k hk => ?_)
    simp only [spec_ProveBetween.j5]
    rw [if_neg (by omega)]
    exact hk
 have j4 : ∀ (a t : Nat), a ≤ l.length → t ≤ l.length → Ev (fun k => spec_ProveBetween.j4 k l (a : Int) (t : Int) (l.length : Int) 0) ((l.length : Int), (if a < min (t + 1) l.length then (a : Int) else 0), itemsM l (min (t + 1) l.length - a) a) := by
  intro a t ha ht
  refine Ev.up (j5 a (min (t + 1) l.length) ha (by omega)) (fun k hk => ?_)
  simp only [spec_ProveBetween.j4]
  by_cases c : t < l.length
  · rw [if_pos (by omega), w64 (by omega) (by omega), show (t : Int) + 1 = ((min (t + 1) l.length : Nat) : Int) by omega]
    exact hk
  · rw [if_neg (by omega), show (t : Int) = ((min (t + 1) l.length : Nat) : Int) by omega]
    exact hk
 have fin : ∀ t : Nat, x ≤ t → t ≤ l.length → Ev (fun k => spec_ProveBetween.j3 k l (x : Int) (t : Int) (l.length : Int) 0) (resM l x t) := by
  intro t h1 h2
  refine Ev.up (j4 (x - 1) t (by omega) h2) (fun k hk => ?_)
  simp only [spec_ProveBetween.j3]
  by_cases c : (x : Int) > 0
  · rw [if_pos c, w64 (by omega) (by omega), show (x : Int) - 1 = ((x - 1 : Nat) : Int) by omega]
    exact hk
  · rw [if_neg c]
    have e : ((x - 1 : Nat) : Int) = (x : Int) := by omega
    rw [e] at hk
    rw [hk]
    try (unfold resM; rw [e])
 intro d
 induction d with
 | zero =>
  intro i hid hxi
  refine Ev.up (fin i hxi (by omega)) (fun k hk => ?_)
  simp only [spec_ProveBetween.l1]
  rw [if_neg (by omega)]
  exact hk
 | succ d ih =>
  intro i hid hxi
  by_cases c : btwP l lo hi i = true
  ·
   have hw : whileM (btwP l lo hi) (d + 1) i = whileM (btwP l lo hi) d (i + 1) := by rw [whileM, if_pos c]
   rw [hw]
   refine Ev.up (ih (i + 1) (by omega) (by omega)) (fun k hk => ?_)
   simp only [spec_ProveBetween.l1]
   have c' : btwB lo hi (rd_T45 l (i : Int)) = true := c
   rw [if_pos (by omega), if_pos (by omega), spec_l3In_eq, Option.bind_some, if_pos c', w64 (by omega) (by omega)]
   exact hk
  ·
   have hw : whileM (btwP l lo hi) (d + 1) i = i := by rw [whileM, if_neg c]
   rw [hw]
   refine Ev.up (fin i hxi (by omega)) (fun k hk => ?_)
   simp only [spec_ProveBetween.l1]
   have c' : ¬ btwB lo hi (rd_T45 l (i : Int)) = true := c
   rw [if_pos (by omega), if_pos (by omega), spec_l3In_eq, Option.bind_some, if_neg c']
   exact hk
theorem spec_Prove_l0 (l : List S45) (hl : l.length ≤ 1000) (hf : Few l) (lo hi : ByteArray) : ∀ (d i : Nat), i + d = l.length →
 Ev (fun k => spec_ProveBetween.l0 k l lo hi (i : Int) (l.length : Int) 0) (resM l (whileM (lessP l lo) d i) (whileM (btwP l lo hi) (l.length - whileM (lessP l lo) d i) (whileM (lessP l lo) d i))) := by
 intro d
 induction d with
 | zero =>
  intro i hid
  refine Ev.up (Ev.up (spec_Prove_l1 l hl hf lo hi i (by omega) (l.length - i) i (by omega) (by omega)) (g := fun k => spec_ProveBetween.j1 k l lo hi (i : Int) (l.length : Int) 0) (fun k hk => ?_)) (fun k hk => ?_)
  · simp only [spec_ProveBetween.j1]
    exact hk
  · simp only [spec_ProveBetween.l0]
    rw [if_neg (by omega)]
    exact hk
 | succ d ih =>
  intro i hid
  by_cases c : lessP l lo i = true
  ·
   have hw : whileM (lessP l lo) (d + 1) i = whileM (lessP l lo) d (i + 1) := by rw [whileM, if_pos c]
   rw [hw]
   refine Ev.up (ih (i + 1) (by omega)) (fun k hk => ?_)
   simp only [spec_ProveBetween.l0]
   have c' : Op.bytesLess (rd_T45 l (i : Int)).f0.toList lo.toList = true := c
   rw [if_pos (by omega), if_pos (by omega), if_pos c', w64 (by omega) (by omega)]
   exact hk
  ·
   have hw : whileM (lessP l lo) (d + 1) i = i := by rw [whileM, if_neg c]
   rw [hw]
   refine Ev.up (Ev.up (spec_Prove_l1 l hl hf lo hi i (by omega) (l.length - i) i (by omega) (by omega)) (g := fun k => spec_ProveBetween.j1 k l lo hi (i : Int) (l.length : Int) 0) (fun k hk => ?_)) (fun k hk => ?_)
   · simp only [spec_ProveBetween.j1]
     exact hk
   · simp only [spec_ProveBetween.l0]
     have c' : ¬ Op.bytesLess (rd_T45 l (i : Int)).f0.toList lo.toList = true := c
     rw [if_pos (by omega), if_pos (by omega), if_neg c']
     exact hk
theorem spec_ProveBetween_ev (l : List S45) (hl : l.length ≤ 1000) (hf : Few l) (lo hi : ByteArray) : Ev (fun k => spec_ProveBetween.f k l lo hi) (proveM l lo hi) := by
 obtain ⟨K1, e1⟩ := Ev.get (spec_PairsOk_ev l (by omega) (fun p hp => by have := (hf p hp).1; omega))
 obtain ⟨K2, e2⟩ := Ev.get (spec_Prove_l0 l hl hf lo hi l.length 0 (by omega))
 unfold proveM
 by_cases c : pokM l l.length 0 = true
 ·
  refine ⟨K1 + K2, fun k hk => ?_⟩
  show spec_ProveBetween.f k l lo hi = _
  unfold spec_ProveBetween.f
  rw [e1 _ (by omega), Option.bind_some, if_pos c, if_pos c]
  have hx := e2 k (by omega)
  exact hx
 · refine ⟨K1, fun k hk => ?_⟩
   show spec_ProveBetween.f k l lo hi = _
   unfold spec_ProveBetween.f
   rw [e1 _ (by omega), Option.bind_some, if_neg c, if_neg c]
end Go.Proofs.Ytgmfhchhbidlnaa.P
/- Rows of items and proofs in the laws: turned into the program's, measured. No condition but bounds on lengths. -/
namespace Go.Proofs.Ytgmfhchhbidlnaa.P
open Go.RowKit Go.Proofs.YtgmfhchhbidlnaaW.PrintWords Go.Proofs.YtgmfhchhbidlnaaW.PrintLast Go.Proofs.YtgmfhchhbidlnaaW.PrintMore
set_option linter.unusedVariables false
set_option linter.unusedSimpArgs false
theorem rd_52_nat (l : List S52) (i : Nat) (h : i < l.length) : rd_T52 l (i : Int) = l[i] := by
 unfold rd_T52
 simp [List.getD_eq_getElem?_getD, h]
end Go.Proofs.Ytgmfhchhbidlnaa.P
/- CheckBetween: what the program's and the reference's answer. No condition but bounds on lengths. -/
namespace Go.Proofs.Ytgmfhchhbidlnaa.P
open Go.RowKit Go.Proofs.YtgmfhchhbidlnaaW.PrintWords Go.Proofs.YtgmfhchhbidlnaaW.PrintLast Go.Proofs.YtgmfhchhbidlnaaW.PrintMore
set_option linter.unusedVariables false
set_option linter.unusedSimpArgs false
abbrev itm (l : List S52) (i : Int) : S52 := rd_T52 l i
def itOk (root : ByteArray) (N F : Int) (l : List S52) (i : Nat) : Bool :=
 if pairOkM (itm l i).f0.f0 (itm l i).f0.f1 = true then
  if (0 < i → Op.bytesLess (itm l ((i : Int) - 1)).f0.f0.toList (itm l i).f0.f0.toList = true) then checkM (leafB (itm l i).f0.f0 (itm l i).f0.f1) (F + i) N (itm l i).f1 root else false
 else false
def allOk (root : ByteArray) (N F : Int) (l : List S52) : Nat → Nat → Bool
 | 0, _ => true
 | d + 1, i => if itOk root N F l i = true then allOk root N F l d (i + 1) else false
def reachB (lo hi : ByteArray) (N F : Int) (l : List S52) : Bool :=
 if F = 0 ∨ Op.bytesLess (itm l 0).f0.f0.toList lo.toList = true then
  (if F + l.length = N then true else if hi.toList = ([] : List UInt8) then false else !(Op.bytesLess (itm l ((l.length : Int) - 1)).f0.f0.toList hi.toList))
 else false
def pof (x : S52) : S45 := ⟨x.f0.f0, x.f0.f1⟩
def chkB (root lo hi : ByteArray) (N F : Int) (l : List S52) : List S45 × Bool :=
 if N = 0 then ([], if (l.length : Int) = 0 ∧ F = 0 then root.toList == (rootM []).toList else false)
 else if (1 ≤ N ∧ N ≤ 60) ∧ (1 ≤ (l.length : Int) ∧ (l.length : Int) ≤ N) ∧ (0 ≤ F ∧ F ≤ N - 1) ∧ allOk root N F l l.length 0 = true ∧ reachB lo hi N F l = true then ((l.map pof).filter (btwB lo hi), true)
 else ([], false)
def FewT (l : List S52) : Prop := l.length ≤ 10000000 ∧ ∀ x ∈ l, (x.f0.f0.size ≤ 10000000 ∧ x.f0.f1.size ≤ 10000000) ∧ x.f1.length ≤ 10000000 ∧ FewS x.f1
theorem itm_few {l : List S52} (h : FewT l) {i : Nat} (hi : i < l.length) : ((itm l i).f0.f0.size ≤ 10000000 ∧ (itm l i).f0.f1.size ≤ 10000000) ∧ (itm l i).f1.length ≤ 10000000 ∧ FewS (itm l i).f1 := by
 unfold itm
 rw [rd_52_nat l i hi]
 exact h.2 _ (List.getElem_mem hi)
theorem allOk_at {root : ByteArray} {N F : Int} {l : List S52} : ∀ (d i : Nat), allOk root N F l d i = true → ∀ j, i ≤ j → j < i + d → itOk root N F l j = true := by
 intro d
 induction d with
 | zero => intro i _ j h1 h2; omega
 | succ d ih =>
  intro i h j h1 h2
  rw [allOk] at h
  split at h
  · rename_i c
    rcases Nat.eq_or_lt_of_le h1 with e | e
    · rw [← e]; exact c
    · exact ih (i + 1) h j e (by omega)
  · cases h
theorem allOk_room {root : ByteArray} {N F : Int} {l : List S52} (hl : 0 < l.length) (h : allOk root N F l l.length 0 = true) : F + l.length ≤ N := by
 have h1 := allOk_at _ _ h (l.length - 1) (by omega) (by omega)
 unfold itOk at h1
 split at h1
 ·
  split at h1
  · unfold checkM at h1
    split at h1
    · rename_i c; omega
    · cases h1
  · cases h1
 · cases h1
theorem impl_itemsOk_loop (root : ByteArray) (N F : Int) (hN : 1 ≤ N ∧ N ≤ 60) (hF : 0 ≤ F ∧ F ≤ 60) (l : List S52) (hf : FewT l) : ∀ (d i : Nat), l.length - i = d → i ≤ l.length →
 Ev (fun k => impl_itemsOk.l0 k root l (l.length : Int) (i : Int) N F l) (allOk root N F l d i) := by
 intro d
 have hn := hf.1
 induction d with
 | zero =>
  intro i hd hi
  refine Ev.up (Ev.now _) (fun k _ => ?_)
  simp only [impl_itemsOk.l0]
  rw [if_neg (by omega)]
  rfl
 | succ d ih =>
  intro i hd hi
  have hil : i < l.length := by omega
  obtain ⟨⟨ha, hb⟩, hpl, hps⟩ := itm_few hf hil
  obtain ⟨K1, e1⟩ := Ev.get (impl_PairOk_ev (itm l i).f0.f0 (itm l i).f0.f1 (by omega))
  obtain ⟨K2, e2⟩ := Ev.get (impl_CheckPath_ev (itm l i).f0.f0 (itm l i).f0.f1 ha hb (F + i) N (by omega) (itm l i).f1 hps (by omega) root)
  obtain ⟨K3, e3⟩ := Ev.get (ih (i + 1) (by omega) (by omega))
  refine ⟨K1 + K2 + K3 + 1, fun k hk => ?_⟩
  obtain ⟨k, rfl⟩ : ∃ j, k = j + 1 := ⟨k - 1, by omega⟩
  have f1 : impl_PairOk.f k (rd_T52 l (i : Int)).f0.f0 (rd_T52 l (i : Int)).f0.f1 = _ := e1 k (by omega)
  have f2 : impl_CheckPath.f k (rd_T52 l (i : Int)).f0.f0 (rd_T52 l (i : Int)).f0.f1 (F + i) N (rd_T52 l (i : Int)).f1 root = _ := e2 k (by omega)
  have f3 : impl_itemsOk.l0 k root l (l.length : Int) ((i + 1 : Nat) : Int) N F l = _ := e3 k (by omega)
  show impl_itemsOk.l0 (k + 1) _ _ _ _ _ _ _ = _
  simp only [impl_itemsOk.l0]
  rw [if_pos (by omega), if_pos (by omega), if_pos (by omega), f1, Option.bind_some, w64 (x := F + (i : Int)) (by omega) (by omega), w64 (x := (i : Int) - 1) (by omega) (by omega), w64 (x := (i : Int) + 1) (by omega) (by omega), f2, show (i : Int) + 1 = ((i + 1 : Nat) : Int) by omega, f3, Option.bind_some, allOk]
  unfold itOk
  by_cases c1 : pairOkM (itm l i).f0.f0 (itm l i).f0.f1 = true
  ·
   rw [if_pos c1, if_pos c1]
   by_cases c2 : 0 < i
   · rw [if_pos (by omega), if_pos (by omega), if_pos (by omega)]
     by_cases c3 : Op.bytesLess (itm l ((i : Int) - 1)).f0.f0.toList (itm l i).f0.f0.toList = true
     · rw [if_pos c3, if_pos (fun _ => c3)]
       split <;> rfl
     · rw [if_neg c3, show (if (0 < i → Op.bytesLess (itm l ((i : Int) - 1)).f0.f0.toList (itm l i).f0.f0.toList = true) then checkM (leafB (itm l i).f0.f0 (itm l i).f0.f1) (F + i) N (itm l i).f1 root else false) = false from if_neg (fun h => c3 (h c2)), if_neg (by simp)]
   · rw [if_neg (by omega), if_pos (fun h => absurd h c2)]
     split <;> rfl
  · rw [if_neg c1, if_neg c1, if_neg (by simp)]
theorem impl_reaches_eq (lo hi : ByteArray) (N F : Int) (hN : 1 ≤ N ∧ N ≤ 60) (hF : 0 ≤ F ∧ F ≤ 60) (l : List S52) (hl : 0 < l.length) (hl2 : l.length ≤ 10000000) : impl_reaches.f lo hi N F l = some (reachB lo hi N F l) := by
 unfold impl_reaches.f reachB
 rw [w64 (x := (l.length : Int) - 1) (by omega) (by omega), w64 (x := N - 1) (by omega) (by omega), w64 (x := F + ((l.length : Int) - 1)) (by omega) (by omega)]
 have hx : (if F + ((l.length : Int) - 1) = N - 1 then some true else if hi.toList = ([] : List UInt8) then some false else if 0 ≤ (l.length : Int) - 1 then if (l.length : Int) - 1 < (l.length : Int) then some (!(Op.bytesLess (rd_T52 l ((l.length : Int) - 1)).f0.f0.toList hi.toList)) else none else none) =
  some (if F + l.length = N then true else if hi.toList = ([] : List UInt8) then false else !(Op.bytesLess (itm l ((l.length : Int) - 1)).f0.f0.toList hi.toList)) := by
  by_cases c1 : F + ((l.length : Int) - 1) = N - 1
  · rw [if_pos c1, if_pos (show F + (l.length : Int) = N by omega)]
  · rw [if_neg c1, if_neg (show ¬ F + (l.length : Int) = N by omega)]
    by_cases c2 : hi.toList = ([] : List UInt8)
    · rw [if_pos c2, if_pos c2]
    · rw [if_neg c2, if_neg c2, if_pos (by omega), if_pos (by omega)]
 by_cases c : F = 0
 · rw [if_pos c, if_pos (show F = 0 ∨ Op.bytesLess (itm l 0).f0.f0.toList lo.toList = true from .inl c)]
   exact hx
 ·
  rw [if_neg c, if_pos (by omega)]
  by_cases c3 : Op.bytesLess (itm l 0).f0.f0.toList lo.toList = true
  · rw [if_pos c3, if_pos (show F = 0 ∨ Op.bytesLess (itm l 0).f0.f0.toList lo.toList = true from .inr c3)]
    exact hx
  · rw [if_neg c3, if_neg (show ¬ (F = 0 ∨ Op.bytesLess (itm l 0).f0.f0.toList lo.toList = true) from fun h => h.elim c c3)]
theorem impl_Check_loop (lo hi : ByteArray) (l : List S52) (hl : l.length ≤ 10000000) : ∀ (d i : Nat), l.length - i = d → i ≤ l.length →
 Ev (fun k => impl_CheckBetween.l0 k lo hi ((l.take i).map pof) l (l.length : Int) (i : Int)) ((l.map pof).filter (btwB lo hi), true) := by
 intro d
 induction d with
 | zero =>
  intro i hd hi'
  obtain rfl : i = l.length := by omega
  obtain ⟨K, e⟩ := Ev.get (impl_Between_ev (l.map pof) (by rw [List.length_map]; omega) lo hi)
  refine ⟨K + 1, fun k hk => ?_⟩
  obtain ⟨k, rfl⟩ : ∃ j, k = j + 1 := ⟨k - 1, by omega⟩
  show impl_CheckBetween.l0 (k + 1) _ _ _ _ _ _ = _
  simp only [impl_CheckBetween.l0]
  rw [if_neg (by omega), List.take_length, e k (by omega), Option.bind_some]
 | succ d ih =>
  intro i hd hi'
  have hil : i < l.length := by omega
  refine Ev.up (ih (i + 1) (by omega) (by omega)) (fun k hk => ?_)
  simp only [impl_CheckBetween.l0]
  rw [if_pos (by omega), if_pos (by omega), if_pos (by omega), if_pos (by rw [List.length_map, List.length_take]; omega), rd_52_nat l i hil, w64 (by omega) (by omega)]
  rw [List.take_succ_eq_append_getElem hil, List.map_append] at hk
  exact hk
theorem impl_CheckBetween_ev (root lo hi : ByteArray) (N F : Int) (hNr : -9223372036854775808 ≤ N ∧ N ≤ 9223372036854775807) (l : List S52) (hf : FewT l) : Ev (fun k => impl_CheckBetween.f k root lo hi N F l) (chkB root lo hi N F l) := by
 have hn := hf.1
 unfold chkB
 by_cases c0 : N = 0
 ·
  rw [if_pos c0]
  obtain ⟨K, e⟩ := Ev.get (impl_rootOf_ev [] (by simp) (fun _ h => by cases h))
  refine ⟨K, fun k hk => ?_⟩
  show impl_CheckBetween.f k root lo hi N F l = _
  unfold impl_CheckBetween.f
  rw [if_pos c0]
  by_cases c1 : (l.length : Int) = 0
  · rw [if_pos c1]
    by_cases c2 : F = 0
    · rw [if_pos c2, if_pos ⟨c1, c2⟩, e k hk, Option.bind_some]
    · rw [if_neg c2, if_neg (fun h => c2 h.2)]
  · rw [if_neg c1, if_neg (fun h => c1 h.1)]
 ·
  rw [if_neg c0]
  have hbad : ∀ k, impl_CheckBetween.j0 (k + 1) lo hi true N F l = some ([], false) := fun k => by simp only [impl_CheckBetween.j0]; rw [if_pos trivial]
  by_cases cN : 1 ≤ N ∧ N ≤ 60
  ·
   by_cases cL : 1 ≤ (l.length : Int) ∧ (l.length : Int) ≤ N
   ·
    by_cases cF : 0 ≤ F ∧ F ≤ N - 1
    ·
     obtain ⟨K1, e1⟩ := Ev.get (impl_itemsOk_loop root N F cN ⟨cF.1, by omega⟩ l hf _ 0 rfl (by omega))
     obtain ⟨K2, e2⟩ := Ev.get (impl_Check_loop lo hi l hn _ 0 rfl (by omega))
     refine ⟨K1 + K2 + 1, fun k hk => ?_⟩
     obtain ⟨k, rfl⟩ : ∃ j, k = j + 1 := ⟨k - 1, by omega⟩
     have f1 : impl_itemsOk.f (k + 1) root N F l = some (allOk root N F l l.length 0) := e1 (k + 1) (by omega)
     have f2 : impl_CheckBetween.l0 k lo hi ([] : List S45) l (l.length : Int) 0 = _ := e2 k (by omega)
     show impl_CheckBetween.f (k + 1) root lo hi N F l = _
     unfold impl_CheckBetween.f
     rw [if_neg c0, inRange_eq, Option.bind_some, if_pos (decide_eq_true cN), inRange_eq, Option.bind_some, if_pos (decide_eq_true cL), inRange_eq, w64 (x := N - 1) (by omega) (by omega), Option.bind_some, if_pos (decide_eq_true cF), f1, Option.bind_some]
     by_cases c3 : allOk root N F l l.length 0 = true
     · rw [if_pos c3, impl_reaches_eq lo hi N F cN ⟨cF.1, by omega⟩ l (by omega) hn, Option.bind_some]
       by_cases c4 : reachB lo hi N F l = true
       · rw [if_pos ⟨cN, cL, cF, c3, c4⟩, c4]
         simp only [impl_CheckBetween.j0]
         rw [if_neg (by simp)]
         exact f2
       · rw [if_neg (fun h => c4 h.2.2.2.2), Bool.eq_false_iff.mpr c4]
         exact hbad k
     · rw [if_neg c3, if_neg (fun h => c3 h.2.2.2.1)]
       exact hbad k
    · refine ⟨1, fun k hk => ?_⟩
      obtain ⟨k, rfl⟩ : ∃ j, k = j + 1 := ⟨k - 1, by omega⟩
      show impl_CheckBetween.f (k + 1) root lo hi N F l = _
      unfold impl_CheckBetween.f
      rw [if_neg c0, inRange_eq, Option.bind_some, if_pos (decide_eq_true cN), inRange_eq, Option.bind_some, if_pos (decide_eq_true cL), inRange_eq, w64 (x := N - 1) (by omega) (by omega), Option.bind_some, if_neg (by simpa using cF), if_neg (fun h => cF h.2.2.1)]
      exact hbad k
   · refine ⟨1, fun k hk => ?_⟩
     obtain ⟨k, rfl⟩ : ∃ j, k = j + 1 := ⟨k - 1, by omega⟩
     show impl_CheckBetween.f (k + 1) root lo hi N F l = _
     unfold impl_CheckBetween.f
     rw [if_neg c0, inRange_eq, Option.bind_some, if_pos (decide_eq_true cN), inRange_eq, Option.bind_some, if_neg (by simpa using cL), if_neg (fun h => cL h.2.1)]
     exact hbad k
  ·
   refine ⟨1, fun k hk => ?_⟩
   obtain ⟨k, rfl⟩ : ∃ j, k = j + 1 := ⟨k - 1, by omega⟩
   show impl_CheckBetween.f (k + 1) root lo hi N F l = _
   unfold impl_CheckBetween.f
   rw [if_neg c0, inRange_eq, Option.bind_some, if_neg (by simpa using cN), if_neg (fun h => cN h.1)]
   exact hbad k
theorem spec_l5Item_ev (root : ByteArray) (N F : Int) (hN : 1 ≤ N ∧ N ≤ 60) (hF : 0 ≤ F ∧ F ≤ 60) (l : List S52) (hf : FewT l) (i : Nat) (hil : i < l.length) : Ev (fun k => spec_l5Item.f k root N F l (i : Int)) (itOk root N F l i) := by
 have hn := hf.1
 obtain ⟨⟨ha, hb⟩, hpl, hps⟩ := itm_few hf hil
 obtain ⟨K1, e1⟩ := Ev.get (spec_PairOk_ev (itm l i).f0.f0 (itm l i).f0.f1 (by omega))
 obtain ⟨K2, e2⟩ := Ev.get (spec_CheckPath_ev (itm l i).f0.f0 (itm l i).f0.f1 ha hb (F + i) N (by omega) (itm l i).f1 hps (by omega) root)
 refine ⟨K1 + K2, fun k hk => ?_⟩
 have f1 : spec_PairOk.f k (rd_T52 l (i : Int)).f0.f0 (rd_T52 l (i : Int)).f0.f1 = _ := e1 k (by omega)
 have f2 : spec_CheckPath.f k (rd_T52 l (i : Int)).f0.f0 (rd_T52 l (i : Int)).f0.f1 (F + i) N (rd_T52 l (i : Int)).f1 root = _ := e2 k (by omega)
 show spec_l5Item.f k root N F l (i : Int) = _
 unfold spec_l5Item.f itOk
 rw [if_pos (by omega), if_pos (by omega), f1, Option.bind_some, w64 (x := F + (i : Int)) (by omega) (by omega), w64 (x := (i : Int) - 1) (by omega) (by omega), f2, Option.bind_some]
 by_cases c1 : pairOkM (itm l i).f0.f0 (itm l i).f0.f1 = true
 ·
  rw [if_pos c1, if_pos c1]
  by_cases c2 : checkM (leafB (itm l i).f0.f0 (itm l i).f0.f1) (F + i) N (itm l i).f1 root = true
  ·
   rw [if_pos c2]
   by_cases c3 : 0 < i
   · rw [if_neg (by omega), if_pos (by omega), if_pos (by omega)]
     by_cases c4 : Op.bytesLess (itm l ((i : Int) - 1)).f0.f0.toList (itm l i).f0.f0.toList = true
     · rw [if_pos (fun _ => c4), c2]
       exact congrArg some c4
     · rw [if_neg (fun h => c4 (h c3))]
       exact congrArg some (Bool.eq_false_iff.mpr c4)
   · rw [if_pos (by omega), if_pos (fun h => absurd h c3), c2]
  · rw [if_neg c2]
    split
    · exact congrArg some (Bool.eq_false_iff.mpr c2).symm
    · rfl
 · rw [if_neg c1, if_neg c1]
def endB (lo hi : ByteArray) (N F : Int) (l : List S52) (out : List S45) : List S45 × Bool := if reachB lo hi N F l = true then (out, true) else ([], false)
theorem spec_Check_loop (root lo hi : ByteArray) (N F : Int) (hN : 1 ≤ N ∧ N ≤ 60) (hF : 0 ≤ F ∧ F ≤ N - 1) (l : List S52) (hf : FewT l) (hl : 0 < l.length) (hroom : allOk root N F l l.length 0 = true → F + l.length ≤ N) : ∀ (d i : Nat), l.length - i = d → i ≤ l.length → (allOk root N F l d i = true → allOk root N F l l.length 0 = true) →
 Ev (fun k => spec_CheckBetween.l0 k root lo hi [] (l.length : Int) (((l.take i).map pof).filter (btwB lo hi)) (i : Int) N F l) (if allOk root N F l d i = true then endB lo hi N F l ((l.map pof).filter (btwB lo hi)) else ([], false)) := by
 intro d
 have hn := hf.1
 induction d with
 | zero =>
  intro i hd hi' hall
  obtain rfl : i = l.length := by omega
  have hr := hroom (hall rfl)
  refine Ev.up (Ev.now _) (fun k _ => ?_)
  simp only [spec_CheckBetween.l0]
  rw [if_neg (by omega), if_pos (by omega), w64 (x := (l.length : Int) - 1) (by omega) (by omega), w64 (x := F + (l.length : Int)) (by omega) (by omega), if_pos (by omega), if_pos (by omega), List.take_length, show allOk root N F l 0 l.length = true from rfl, if_pos rfl]
  generalize (l.map pof).filter (btwB lo hi) = out
  unfold endB reachB
  have hx : (if hi.toList = ([] : List UInt8) then (if F + (l.length : Int) < N then some (([] : List S45), false) else some (out, true)) else (if Op.bytesLess (rd_T52 l ((l.length : Int) - 1)).f0.f0.toList hi.toList = true then (if F + (l.length : Int) < N then some (([] : List S45), false) else some (out, true)) else some (out, true))) =
   some (if (if F + l.length = N then true else if hi.toList = ([] : List UInt8) then false else !(Op.bytesLess (itm l ((l.length : Int) - 1)).f0.f0.toList hi.toList)) = true then (out, true) else ([], false)) := by
   by_cases c2 : hi.toList = ([] : List UInt8)
   · rw [if_pos c2, if_pos c2]
     by_cases c1 : F + (l.length : Int) = N
     · rw [if_neg (by omega), if_pos c1, if_pos rfl]
     · rw [if_pos (by omega), if_neg c1, if_neg (by simp)]
   ·
    rw [if_neg c2, if_neg c2]
    by_cases c3 : Op.bytesLess (itm l ((l.length : Int) - 1)).f0.f0.toList hi.toList = true
    · rw [if_pos c3, c3]
      by_cases c1 : F + (l.length : Int) = N
      · rw [if_neg (by omega), if_pos c1, if_pos rfl]
      · rw [if_pos (by omega), if_neg c1, if_neg (by simp)]
    · rw [if_neg c3, Bool.eq_false_iff.mpr c3]
      by_cases c1 : F + (l.length : Int) = N
      · rw [if_pos c1, if_pos rfl]
      · rw [if_neg c1, if_pos (by simp)]
  by_cases c : Op.bytesLess (itm l 0).f0.f0.toList lo.toList = true
  · rw [if_pos c, if_pos (show F = 0 ∨ Op.bytesLess (itm l 0).f0.f0.toList lo.toList = true from .inr c)]
    exact hx
  · rw [if_neg c]
    by_cases c4 : F = 0
    · rw [if_neg (show ¬ F > 0 by omega), if_pos (show F = 0 ∨ Op.bytesLess (itm l 0).f0.f0.toList lo.toList = true from .inl c4)]
      exact hx
    · rw [if_pos (show F > 0 by omega), if_neg (show ¬ (F = 0 ∨ Op.bytesLess (itm l 0).f0.f0.toList lo.toList = true) from fun h => h.elim c4 c), if_neg (by simp)]
 | succ d ih =>
  intro i hd hi' hall
  have hil : i < l.length := by omega
  obtain ⟨K1, e1⟩ := Ev.get (spec_l5Item_ev root N F hN ⟨hF.1, by omega⟩ l hf i hil)
  rw [allOk]
  by_cases c1 : itOk root N F l i = true
  ·
   rw [if_pos c1]
   obtain ⟨K2, e2⟩ := Ev.get (ih (i + 1) (by omega) (by omega) (fun h => hall (by rw [allOk, if_pos c1]; exact h)))
   refine ⟨K1 + K2 + 1, fun k hk => ?_⟩
   obtain ⟨k, rfl⟩ : ∃ j, k = j + 1 := ⟨k - 1, by omega⟩
   have hx := e2 k (by omega)
   rw [List.take_succ_eq_append_getElem hil, List.map_append, List.filter_append] at hx
   have hle : (((l.take i).map pof).filter (btwB lo hi)).length ≤ i := Nat.le_trans (List.length_filter_le _ _) (by rw [List.length_map, List.length_take]; omega)
   have h3 : spec_l3In.f (rd_T52 l (i : Int)).f0.f0 lo hi = some (btwB lo hi (pof l[i])) := by
    rw [rd_52_nat l i hil]
    exact spec_l3In_eq (pof l[i]) lo hi
   show spec_CheckBetween.l0 (k + 1) _ _ _ _ _ _ _ _ _ _ = _
   simp only [spec_CheckBetween.l0]
   rw [if_pos (by omega), e1 k (by omega), Option.bind_some, if_pos c1, if_pos (by omega), if_pos (by omega), h3, Option.bind_some, w64 (x := (i : Int) + 1) (by omega) (by omega), show (i : Int) + 1 = ((i + 1 : Nat) : Int) by omega]
   by_cases c2 : btwB lo hi (pof l[i]) = true
   · rw [if_pos c2, if_pos (by omega), rd_52_nat l i hil]
     rw [show List.filter (btwB lo hi) (List.map pof [l[i]]) = [pof l[i]] by simp [c2]] at hx
     exact hx
   · rw [if_neg c2]
     rw [show List.filter (btwB lo hi) (List.map pof [l[i]]) = [] by simp [c2], List.append_nil] at hx
     exact hx
  ·
   rw [if_neg c1, if_neg (by simp)]
   refine ⟨K1 + 1, fun k hk => ?_⟩
   obtain ⟨k, rfl⟩ : ∃ j, k = j + 1 := ⟨k - 1, by omega⟩
   show spec_CheckBetween.l0 (k + 1) _ _ _ _ _ _ _ _ _ _ = _
   simp only [spec_CheckBetween.l0]
   rw [if_pos (by omega), e1 k (by omega), Option.bind_some, if_neg c1]
theorem spec_CheckBetween_ev (root lo hi : ByteArray) (N F : Int) (hNr : -9223372036854775808 ≤ N ∧ N ≤ 9223372036854775807) (l : List S52) (hf : FewT l) : Ev (fun k => spec_CheckBetween.f k root lo hi N F l) (chkB root lo hi N F l) := by
 have hn := hf.1
 unfold chkB
 by_cases c0 : N = 0
 ·
  rw [if_pos c0]
  obtain ⟨K, e⟩ := Ev.get (spec_l4Root_ev [] (by simp) (fun _ h => by cases h))
  refine ⟨K, fun k hk => ?_⟩
  show spec_CheckBetween.f k root lo hi N F l = _
  unfold spec_CheckBetween.f
  rw [Option.bind_some, if_pos c0]
  by_cases c1 : (l.length : Int) = 0
  · rw [if_pos c1]
    by_cases c2 : F = 0
    · rw [if_pos c2, if_pos ⟨c1, c2⟩, e k hk, Option.bind_some]
    · rw [if_neg c2, if_neg (fun h => c2 h.2)]
  · rw [if_neg c1, if_neg (fun h => c1 h.1)]
 ·
  rw [if_neg c0]
  have hbad : ∀ k, spec_CheckBetween.j0 (k + 1) root lo hi [] (l.length : Int) true N F l = some ([], false) := fun k => by simp only [spec_CheckBetween.j0]; rw [if_pos trivial]
  by_cases cN : 1 ≤ N ∧ N ≤ 60
  ·
   by_cases cL : (l.length : Int) = 0
   · refine ⟨1, fun k hk => ?_⟩
     obtain ⟨k, rfl⟩ : ∃ j, k = j + 1 := ⟨k - 1, by omega⟩
     show spec_CheckBetween.f (k + 1) root lo hi N F l = _
     unfold spec_CheckBetween.f
     rw [Option.bind_some, if_neg c0, l1In_eq, Option.bind_some, if_pos (decide_eq_true cN), if_pos cL, if_neg (fun h => by have := h.2.1.1; omega)]
     exact hbad k
   ·
    by_cases cF : 0 ≤ F ∧ F ≤ N - 1
    ·
     obtain ⟨K2, e2⟩ := Ev.get (spec_Check_loop root lo hi N F cN cF l hf (by omega) (allOk_room (by omega)) _ 0 rfl (by omega) (fun h => h))
     refine ⟨K2 + 1, fun k hk => ?_⟩
     obtain ⟨k, rfl⟩ : ∃ j, k = j + 1 := ⟨k - 1, by omega⟩
     have f2 : spec_CheckBetween.l0 k root lo hi [] (l.length : Int) ([] : List S45) 0 N F l = _ := e2 k (by omega)
     show spec_CheckBetween.f (k + 1) root lo hi N F l = _
     unfold spec_CheckBetween.f
     rw [Option.bind_some, if_neg c0, l1In_eq, Option.bind_some, if_pos (decide_eq_true cN), if_neg cL, l1In_eq, w64 (x := N - 1) (by omega) (by omega), Option.bind_some, decide_eq_true cF]
     simp only [spec_CheckBetween.j0]
     rw [if_neg (by simp)]
     refine f2.trans (congrArg some ?_)
     by_cases c3 : allOk root N F l l.length 0 = true
     · have hr := allOk_room (by omega) c3
       unfold endB
       rw [show l.length - 0 = l.length from rfl, if_pos c3]
       by_cases c4 : reachB lo hi N F l = true
       · rw [if_pos c4, if_pos ⟨cN, ⟨by omega, by omega⟩, cF, c3, c4⟩]
       · rw [if_neg c4, if_neg (fun h => c4 h.2.2.2.2)]
     · rw [show l.length - 0 = l.length from rfl, if_neg c3, if_neg (fun h => c3 h.2.2.2.1)]
    · refine ⟨1, fun k hk => ?_⟩
      obtain ⟨k, rfl⟩ : ∃ j, k = j + 1 := ⟨k - 1, by omega⟩
      show spec_CheckBetween.f (k + 1) root lo hi N F l = _
      unfold spec_CheckBetween.f
      rw [Option.bind_some, if_neg c0, l1In_eq, Option.bind_some, if_pos (decide_eq_true cN), if_neg cL, l1In_eq, w64 (x := N - 1) (by omega) (by omega), Option.bind_some, decide_eq_false cF, if_neg (fun h => cF h.2.2.1)]
      exact hbad k
  ·
   refine ⟨1, fun k hk => ?_⟩
   obtain ⟨k, rfl⟩ : ∃ j, k = j + 1 := ⟨k - 1, by omega⟩
   show spec_CheckBetween.f (k + 1) root lo hi N F l = _
   unfold spec_CheckBetween.f
   rw [Option.bind_some, if_neg c0, l1In_eq, Option.bind_some, if_neg (by simpa using cN), if_neg (fun h => cN h.1)]
   exact hbad k
end Go.Proofs.Ytgmfhchhbidlnaa.P
/- DrawLie: what it draws: right pairs, few of them; a proof of few items, bent or not. No condition. -/
namespace Go.Proofs.Ytgmfhchhbidlnaa.P
open Go.RowKit Go.Proofs.YtgmfhchhbidlnaaW.PrintWords Go.Proofs.YtgmfhchhbidlnaaW.PrintLast Go.Proofs.YtgmfhchhbidlnaaW.PrintMore
set_option linter.unusedVariables false
set_option linter.unusedSimpArgs false
def BT (m : Nat) (l : List S52) : Prop := l.length ≤ m ∧ ∀ x ∈ l, (x.f0.f0.size ≤ 30 ∧ x.f0.f1.size ≤ 30) ∧ x.f1.length ≤ 900 ∧ FewS x.f1
theorem BT.few {m : Nat} {l : List S52} (h : BT m l) (hm : m ≤ 900) : FewT l := ⟨by have := h.1; omega, fun x hx => by obtain ⟨⟨a, b⟩, c, d⟩ := h.2 x hx; exact ⟨⟨by omega, by omega⟩, by omega, d⟩⟩
theorem BT.mono {m m' : Nat} {l : List S52} (h : BT m l) (hm : m ≤ m') : BT m' l := ⟨by have := h.1; omega, h.2⟩
theorem BT.sub {m : Nat} {l l' : List S52} (h : BT m l) (hl : l'.length ≤ m) (hs : ∀ x ∈ l', x ∈ l) : BT m l' := ⟨hl, fun x hx => h.2 x (hs x hx)⟩
theorem BT.set {m : Nat} {l : List S52} (h : BT m l) (i : Nat) {x : S52} (hx : (x.f0.f0.size ≤ 30 ∧ x.f0.f1.size ≤ 30) ∧ x.f1.length ≤ 900 ∧ FewS x.f1) : BT m (l.set i x) := ⟨by rw [List.length_set]; exact h.1, fun y hy => by
 rcases List.mem_or_eq_of_mem_set hy with h1 | h1
 · exact h.2 y h1
 · rw [h1]; exact hx⟩
theorem l5Copy_loop (n fr : Int) (l : List S52) (hl : BT 100 l) : ∀ (d i : Nat), i + d = l.length → Ev (fun k => spec_l5Copy.l0 k (i : Int) n fr l n fr (l.take i)) (n, fr, l) := by
 have h100 := hl.1
 intro d
 induction d with
 | zero =>
  intro i hi
  refine Ev.up (Ev.now _) (fun k _ => ?_)
  simp only [spec_l5Copy.l0]
  rw [if_neg (by omega), show l.take i = l from List.take_of_length_le (by omega)]
 | succ d ih =>
  intro i hi
  have hil : i < l.length := by omega
  have hx := hl.2 _ (List.getElem_mem hil)
  have e : rd_T52 l (i : Int) = l[i] := rd_52_nat l i hil
  refine Ev.up (ih (i + 1) (by omega)) (fun k hk => ?_)
  simp only [spec_l5Copy.l0]
  rw [if_pos (by omega), if_pos (by omega), Option.bind_some, e, if_pos (by rw [List.length_nil]; omega), if_pos (by rw [List.length_take]; omega), w64 (by omega) (by omega), List.nil_append]
  rw [List.take_succ_eq_append_getElem hil] at hk
  exact hk
theorem l5Copy_ev (n fr : Int) (l : List S52) (hl : BT 100 l) : Ev (fun k => spec_l5Copy.f k n fr l) (n, fr, l) := l5Copy_loop n fr l hl l.length 0 (by omega)
theorem bend_g {s : List Int} {p : Int} (h : St s p) (x : Int) (n fr : Int) (hn : -100 ≤ n ∧ n ≤ 100) (hfr : -100 ≤ fr ∧ fr ≤ 100) (its : List S52) (hb : BT 100 its) (h8 : ∀ y ∈ its, y.f1.length ≤ 800) (kk : Nat) (hk : its.length ≠ 0 → kk < its.length) (v : Int) :
 ∃ n' fr' its' q y, spec_l5Bend.g s n fr its kk v p x = some (n', fr', its', q, y) ∧ St s q ∧ (-200 ≤ n' ∧ n' ≤ 200) ∧ (-200 ≤ fr' ∧ fr' ≤ 200) ∧ BT 201 its' := by
 have h100 := hb.1
 unfold spec_l5Bend.g
 by_cases c0 : v = 0
 ·
  rw [if_pos c0, w64 (by omega) (by omega), w64 (by omega) (by omega)]
  obtain ⟨m, q, y, e, hq, hm⟩ := l1Int_some h x [0, n + 1, 61, n - 1, -1] (by simp)
  rw [e, Option.bind_some]
  refine ⟨m, fr, its, q, y, rfl, hq, ?_, by omega, hb.mono (by omega)⟩
  simp only [List.mem_cons, List.not_mem_nil, or_false] at hm
  omega
 rw [if_neg c0]
 by_cases c1 : v = 1
 ·
  rw [if_pos c1, w64 (by omega) (by omega)]
  obtain ⟨m, q, y, e, hq, hm⟩ := l1Int_some h x [fr + 1, 0, -1, 59] (by simp)
  rw [e, Option.bind_some]
  refine ⟨n, m, its, q, y, rfl, hq, by omega, ?_, hb.mono (by omega)⟩
  simp only [List.mem_cons, List.not_mem_nil, or_false] at hm
  omega
 rw [if_neg c1]
 by_cases c2 : v = 2
 · rw [if_pos c2]
   exact ⟨n, fr, its.drop kk, p, x, rfl, h, by omega, by omega, (hb.sub (by rw [List.length_drop]; omega) (fun y hy => List.mem_of_mem_drop hy)).mono (by omega)⟩
 rw [if_neg c2]
 by_cases c3 : v = 3
 · rw [if_pos c3]
   exact ⟨n, fr, its.take kk, p, x, rfl, h, by omega, by omega, (hb.sub (by rw [List.length_take]; omega) (fun y hy => List.mem_of_mem_take hy)).mono (by omega)⟩
 rw [if_neg c3]
 by_cases c4 : its.length = 0
 · rw [if_pos c4]
   exact ⟨n, fr, its, p, x, rfl, h, by omega, by omega, hb.mono (by omega)⟩
 rw [if_neg c4]
 have hkk := hk c4
 have hxm : spec_l5Bend.x its kk ∈ its := by
  unfold spec_l5Bend.x
  rw [List.getD_eq_getElem?_getD, List.getElem?_eq_getElem hkk]
  exact List.getElem_mem hkk
 have hx := hb.2 _ hxm
 have hx8 := h8 _ hxm
 by_cases c5 : v = 4
 · rw [if_pos c5]
   exact ⟨n, fr, _, p, x, rfl, h, by omega, by omega, (hb.set kk (x := ⟨⟨(spec_l5Bend.x its kk).f0.f0, ⟨#[98, 101, 110, 116]⟩⟩, (spec_l5Bend.x its kk).f1⟩) ⟨⟨hx.1.1, by show (4 : Nat) ≤ 30; omega⟩, hx.2⟩).mono (by omega)⟩
 rw [if_neg c5]
 by_cases c6 : v = 5
 ·
  rw [if_pos c6, if_pos (by omega)]
  refine ⟨n, fr, _, p, x, rfl, h, by omega, by omega, (hb.set kk (x := ⟨(spec_l5Bend.x its kk).f0, (spec_l5Bend.x its kk).f1 ++ [⟨#[120]⟩]⟩) ⟨hx.1, ?_, fun z hz => ?_⟩).mono (by omega)⟩
  · show (_ ++ _ : List ByteArray).length ≤ _
    rw [List.length_append, List.length_singleton]
    omega
  · rcases List.mem_append.1 hz with h7 | h7
    · exact hx.2.2 z h7
    · rw [List.mem_singleton.1 h7]; show (1 : Nat) ≤ _; omega
 rw [if_neg c6]
 by_cases c7 : v = 6
 ·
  rw [if_pos c7]
  refine ⟨n, fr, _, p, x, rfl, h, by omega, by omega, ⟨?_, fun z hz => ?_⟩⟩
  · rw [List.length_append, List.length_append, List.length_take, List.length_drop, List.length_singleton]
    omega
  · rcases List.mem_append.1 hz with h7 | h7
    · rcases List.mem_append.1 h7 with h9 | h9
      · exact hb.2 z (List.mem_of_mem_take h9)
      · rw [List.mem_singleton.1 h9]; exact hx
    · exact hb.2 z (List.mem_of_mem_drop h7)
 rw [if_neg c7]
 exact ⟨n, fr, its, p, x, rfl, h, by omega, by omega, hb.mono (by omega)⟩
theorem l5Bend_some {s : List Int} {p : Int} (h : St s p) (x : Int) (n fr : Int) (hn : -100 ≤ n ∧ n ≤ 100) (hfr : -100 ≤ fr ∧ fr ≤ 100) (its : List S52) (hb : BT 100 its) (h8 : ∀ y ∈ its, y.f1.length ≤ 800) :
 ∃ n' fr' its' q y, Ev (fun k => spec_l5Bend.f k s p x n fr its) (n', fr', its', q, y) ∧ St s q ∧ (-200 ≤ n' ∧ n' ≤ 200) ∧ (-200 ≤ fr' ∧ fr' ≤ 200) ∧ BT 201 its' := by
 have h100 := hb.1
 obtain ⟨K, e⟩ := Ev.get (l5Copy_ev n fr its hb)
 by_cases c : its.length = 0
 ·
  obtain ⟨v, q, y, e1, h1, _, _⟩ := l1Below_some h x 8 (by omega)
  obtain ⟨n', fr', its', q2, y2, e2, h2⟩ := bend_g h1 y n fr hn hfr its hb h8 0 (fun hc => absurd c hc) v
  refine ⟨n', fr', its', q2, y2, ⟨K, fun k hk => ?_⟩, h2⟩
  show spec_l5Bend.f k s p x n fr its = _
  unfold spec_l5Bend.f spec_l5Bend.h
  rw [e k hk, Option.bind_some]
  dsimp only
  rw [if_pos (by omega), if_pos c, e1, Option.bind_some]
  exact e2
 ·
  obtain ⟨kk, q0, y0, e0, h0, hk0, hk1⟩ := l1Below_some h x (its.length : Int) (by omega)
  obtain ⟨v, q, y, e1, h1, _, _⟩ := l1Below_some h0 y0 8 (by omega)
  obtain ⟨n', fr', its', q2, y2, e2, h2⟩ := bend_g h1 y n fr hn hfr its hb h8 kk.toNat (fun _ => by omega) v
  refine ⟨n', fr', its', q2, y2, ⟨K, fun k hk => ?_⟩, h2⟩
  show spec_l5Bend.f k s p x n fr its = _
  unfold spec_l5Bend.f spec_l5Bend.h
  rw [e k hk, Option.bind_some]
  dsimp only
  rw [if_pos (by omega), if_neg c, e0, Option.bind_some]
  dsimp only
  rw [if_pos ⟨hk0, hk1⟩, e1, Option.bind_some]
  exact e2
theorem l3Ends_some {s : List Int} {p : Int} (h : St s p) (x : Int) : ∃ a b q y, spec_l3Ends.f s p x = some (a, b, q, y) ∧ St s q := by
 obtain ⟨a, q3, y3, e3, h3, _⟩ := l1Str_some h x [(⟨#[]⟩ : ByteArray), (⟨#[]⟩ : ByteArray), (⟨#[98]⟩ : ByteArray), (⟨#[107]⟩ : ByteArray), (⟨#[107, 50]⟩ : ByteArray), (⟨#[122, 122]⟩ : ByteArray)] (by decide)
 obtain ⟨b, q4, y4, e4, h4, _⟩ := l1Str_some h3 y3 [(⟨#[]⟩ : ByteArray), (⟨#[]⟩ : ByteArray), (⟨#[99]⟩ : ByteArray), (⟨#[107, 50]⟩ : ByteArray), (⟨#[108]⟩ : ByteArray), (⟨#[97]⟩ : ByteArray)] (by decide)
 refine ⟨a, b, q4, y4, ?_, h4⟩
 unfold spec_l3Ends.f
 rw [e3, Option.bind_some, e4, Option.bind_some]
theorem itemsM_bt {l : List S45} (hp : PR l) (h9 : l.length ≤ 60) : ∀ (d i : Nat), i + d ≤ l.length → BT 60 (itemsM l d i) ∧ ∀ y ∈ itemsM l d i, y.f1.length ≤ 60 := by
 intro d i hd
 have hlen := itemsM_len l d i
 have key : ∀ y ∈ itemsM l d i, ∃ j, j < l.length ∧ y = itemM l j := fun y hy => by
  obtain ⟨j, hj, rfl⟩ := List.getElem_of_mem hy
  rw [hlen] at hj
  have := itemsM_get l d i j hj
  rw [List.getElem?_eq_getElem (by omega)] at this
  exact ⟨i + j, by omega, Option.some.inj this⟩
 refine ⟨⟨by omega, fun y hy => ?_⟩, fun y hy => ?_⟩
 ·
  obtain ⟨j, hj, rfl⟩ := key y hy
  have h1 := hp _ (List.getElem_mem hj)
  rw [← rdP_get l hj] at h1
  refine ⟨h1, ?_, pathM_few _ l j rfl⟩
  have := pathM_len _ l j rfl
  show (pathM l j).length ≤ _
  omega
 · obtain ⟨j, hj, rfl⟩ := key y hy
   have := pathM_len _ l j rfl
   show (pathM l j).length ≤ _
   omega
theorem proveM_bt {l : List S45} (hp : PR l) (h9 : l.length ≤ 60) (lo hi : ByteArray) : (0 ≤ (proveM l lo hi).1 ∧ (proveM l lo hi).1 ≤ 60) ∧ (0 ≤ (proveM l lo hi).2.1 ∧ (proveM l lo hi).2.1 ≤ 60) ∧ BT 60 (proveM l lo hi).2.2 ∧ ∀ y ∈ (proveM l lo hi).2.2, y.f1.length ≤ 60 := by
 have h1 := toM_le l lo hi
 unfold proveM
 by_cases c : pokM l l.length 0 = true
 ·
  rw [if_pos c]
  have hb : begM l lo ≤ l.length := by unfold begM; omega
  obtain ⟨h2, h3⟩ : BT 60 (itemsM l (endM l lo hi - begM l lo) (begM l lo)) ∧ ∀ y ∈ itemsM l (endM l lo hi - begM l lo) (begM l lo), y.f1.length ≤ 60 := itemsM_bt hp h9 _ _ (by unfold endM; omega)
  refine ⟨by dsimp only; omega, ?_, h2, h3⟩
  dsimp only
  split <;> omega
 · rw [if_neg c]
   exact ⟨by dsimp only; omega, by dsimp only; omega, ⟨by simp, fun _ h => absurd h List.not_mem_nil⟩, fun _ h => absurd h List.not_mem_nil⟩
theorem DrawLie_some (s : List Int) (hs : s.length ≤ 1048576) : ∃ (l : List S45) (lo hi : ByteArray) (n fr : Int) (its : List S52), Ev (fun k => spec_DrawLie.f k s) (l, lo, hi, n, fr, its) ∧
 PR l ∧ GP l ∧ l.length ≤ 8 ∧ (-200 ≤ n ∧ n ≤ 200) ∧ (-200 ≤ fr ∧ fr ≤ 200) ∧ FewT its := by
 obtain ⟨y, e, h⟩ := l1New_some s hs
 obtain ⟨l, q1, y1, e1, h1, hp, hg, hl⟩ := l3Draw_good h y
 obtain ⟨lo, hi, q2, y2, e2, h2⟩ := l3Ends_some h1 y1
 have hf : Few l := fun p hq => by have := hp p hq; exact ⟨by omega, by omega⟩
 obtain ⟨K3, e3⟩ := Ev.get (spec_ProveBetween_ev l (by omega) hf lo hi)
 obtain ⟨⟨n0, n1⟩, ⟨f0, f1⟩, hb, hb8⟩ := proveM_bt hp (by omega) lo hi
 generalize proveM l lo hi = pr at e3 n0 n1 f0 f1 hb hb8
 obtain ⟨n, fr, its⟩ := pr
 dsimp only at n0 n1 f0 f1 hb hb8
 obtain ⟨o, q3, y3, e4, h4⟩ := l1Once_some h2 y2 2 (by omega)
 obtain ⟨K, e⟩ := Ev.get e
 obtain ⟨K1, e1⟩ := Ev.get e1
 -- what is behind the first choice
 have he : ∀ (n' fr' : Int) (its' : List S52) (q y : Int), St s q → ∃ lo' hi', spec_DrawLie.e s l lo hi n' fr' its' q y = some (l, lo', hi', n', fr', its') := by
  intro n' fr' its' q y hq
  obtain ⟨o2, q5, y5, e5, h5⟩ := l1Once_some hq y 4 (by omega)
  unfold spec_DrawLie.e
  rw [e5, Option.bind_some]
  dsimp only
  by_cases c : o2 = true
  · obtain ⟨a, b, q6, y6, e6, h6⟩ := l3Ends_some h5 y5
    rw [if_pos c, e6, Option.bind_some]
    exact ⟨a, b, rfl⟩
  · rw [if_neg c]
    exact ⟨lo, hi, rfl⟩
 by_cases c : o = true
 ·
  obtain ⟨n', fr', its', q5, y5, e5, h5, hn, hfr, hbt⟩ := l5Bend_some h4 y3 n fr (by omega) (by omega) its (hb.mono (by omega)) (fun z hz => by have := hb8 z hz; omega)
  obtain ⟨lo', hi', e6⟩ := he n' fr' its' q5 y5 h5
  obtain ⟨K5, e5⟩ := Ev.get e5
  refine ⟨l, lo', hi', n', fr', its', ⟨K + K1 + K3 + K5, fun k hk => ?_⟩, hp, hg, hl, hn, hfr, hbt.few (by omega)⟩
  show spec_DrawLie.f k s = _
  unfold spec_DrawLie.f spec_DrawLie.d
  rw [e _ (by omega), Option.bind_some, e1 _ (by omega), Option.bind_some, e2, Option.bind_some, e3 _ (by omega), Option.bind_some, e4, Option.bind_some]
  dsimp only
  rw [if_pos c, e5 _ (by omega), Option.bind_some]
  exact e6
 ·
  obtain ⟨lo', hi', e6⟩ := he n fr its q3 y3 h4
  refine ⟨l, lo', hi', n, fr, its, ⟨K + K1 + K3, fun k hk => ?_⟩, hp, hg, hl, by omega, by omega, hb.few (by omega)⟩
  show spec_DrawLie.f k s = _
  unfold spec_DrawLie.f spec_DrawLie.d
  rw [e _ (by omega), Option.bind_some, e1 _ (by omega), Option.bind_some, e2, Option.bind_some, e3 _ (by omega), Option.bind_some, e4, Option.bind_some]
  dsimp only
  rw [if_neg c]
  exact e6
end Go.Proofs.Ytgmfhchhbidlnaa.P
/- Two rows of pairs that differ at one place: PartAt finds a clash there just if their roots are one. -/
namespace Go.Proofs.Ytgmfhchhbidlnaa.P
open Go.RowKit Go.Proofs.YtgmfhchhbidlnaaW.PrintWords Go.Proofs.YtgmfhchhbidlnaaW.PrintLast Go.Proofs.YtgmfhchhbidlnaaW.PrintMore
set_option linter.unusedVariables false
set_option linter.unusedSimpArgs false
theorem climb_ok_way {leaf : List Int} {n i : Nat} {path : List ByteArray} (h : path.length = depthM n i) :
 (wayR leaf n i path).1 = (climbR leaf n i path).1 ++ [topB n (digM (lastL (climbR leaf n i path).1))] ∧ (wayR leaf n i path).2 = true := by
 have := (climbR_depth leaf n i path).1.2 h
 unfold wayR
 rw [if_pos this]
 exact ⟨rfl, rfl⟩
theorem check_own {l : List S45} (h60 : l.length ≤ 60) {i : Nat} (hi : i < l.length) :
 checkM (leafB (rd_T45 l (i : Int)).f0 (rd_T45 l (i : Int)).f1) (i : Int) (l.length : Int) (pathM l i) (rootOfM l) = true := by
 unfold checkM
 rw [if_pos (by omega), Int.toNat_natCast, Int.toNat_natCast]
 obtain ⟨w1, w2⟩ := climb_ok_way (leaf := leafB (rd_T45 l (i : Int)).f0 (rd_T45 l (i : Int)).f1) (pathM_depth l.length l i rfl)
 rw [if_pos w2, w1, lastL_snoc, climb_own l.length l i rfl hi, rootOfM_60 h60]
 simp
theorem getD_size {A : List (List Int)} (h : Ways A) (j : Nat) : (strOfNums (A.getD j [])).size ≤ 1000000000000 := by
 rw [strOfNums_size, List.getD_eq_getElem?_getD]
 cases hq : A[j]? with
 | none => simp
 | some x => have := (h x (List.mem_of_getElem? hq)).2; simp only [Option.getD_some]; omega
theorem tailM_size {l : List S45} {A : List (List Int)} (hA : Ways A) : (tailM l A).1.size ≤ 1000000000000 ∧ (tailM l A).2.1.size ≤ 1000000000000 := by
 have h1 := (lastL_ways hA).2
 have h2 := tailM_top l
 unfold tailM
 exact ⟨by show (strOfNums _).size ≤ _; rw [strOfNums_size]; omega, by show (strOfNums _).size ≤ _; rw [strOfNums_size]; omega⟩
theorem scanT_size {l : List S45} {A B : List (List Int)} (hA : Ways A) (hB : Ways B) : ∀ d k : Nat, (scanT l A B d k).1.size ≤ 1000000000000 ∧ (scanT l A B d k).2.1.size ≤ 1000000000000 := by
 intro d
 induction d with
 | zero => intro k; exact tailM_size hA
 | succ d ih =>
  intro k
  unfold scanT
  by_cases c : clashM (strOfNums (A.getD k [])) (strOfNums (B.getD k [])) 32 = true
  · rw [if_pos c]; exact ⟨getD_size hA k, getD_size hB k⟩
  · rw [if_neg c]; exact ih (k + 1)
theorem partM_size {l : List S45} (hf : FewP l) {a b : ByteArray} (ha : a.size ≤ 10000000) (hb : b.size ≤ 10000000) {i n : Int} {path : List ByteArray} (hp : FewS path) :
 (partM l a b i n path).1.size ≤ 1000000000000 ∧ (partM l a b i n path).2.1.size ≤ 1000000000000 := by
 have hll := leafB_len a b
 have hw := (wayR_ok (leafB_by a b) (by omega) n.toNat i.toNat path hp).1
 unfold partM
 by_cases c1 : ((1 ≤ n ∧ n ≤ 60) ∧ 0 ≤ i ∧ i < n) ∧ pokM l l.length 0 = true
 ·
  rw [if_pos c1]
  by_cases c2 : (wayR (leafB a b) n.toNat i.toNat path).2 = true
  ·
   rw [if_pos c2]
   by_cases c3 : (l.length : Int) = n
   · rw [if_pos c3]
     have hr := hf.rd (i := i) (by omega) (by omega)
     have hol := leafB_len (rd_T45 l i).f0 (rd_T45 l i).f1
     exact scanT_size hw (wayR_ok (leafB_by _ _) (by omega) n.toNat i.toNat (pathM l i.toNat) (pathM_few _ l _ rfl)).1 _ _
   · rw [if_neg c3]; exact tailM_size hw
  · rw [if_neg c2]; exact ⟨Nat.zero_le _, Nat.zero_le _⟩
 · rw [if_neg c1]; exact ⟨Nat.zero_le _, Nat.zero_le _⟩
end Go.Proofs.Ytgmfhchhbidlnaa.P
