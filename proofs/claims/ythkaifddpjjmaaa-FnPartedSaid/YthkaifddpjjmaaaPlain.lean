/- Plain facts about whole numbers, bytes, texts and rounds: no program in sight. No condition. -/
import Derived.Test.YthkaifddpjjmaaaWAll
import Derived.Laws.BitsAllLaws
import Derived.Laws.Bits128
namespace Go.Proofs.Ythkaifddpjjmaaa.P
open Go.RowKit Go.Proofs.YthkaifddpjjmaaaW.PrintWords Go.Proofs.YthkaifddpjjmaaaW.PrintLast Go.Proofs.YthkaifddpjjmaaaW.PrintMore
set_option linter.unusedVariables false
set_option linter.unusedSimpArgs false

theorem w64 {x : Int} (h1 : -9223372036854775808 ≤ x) (h2 : x ≤ 9223372036854775807) : wrap64 x = x := by unfold wrap64; omega
theorem wf_u8 {x : Int} (h : (Lit.int .u8 x).wf = true) : 0 ≤ x ∧ x < 256 := by
  simp [Lit.wf, IntKind.min, IntKind.max, IntKind.signed, IntKind.bits] at h
  omega
theorem wf_i64 {x : Int} (h : (Lit.int .i64 x).wf = true) : -9223372036854775808 ≤ x ∧ x ≤ 9223372036854775807 := by
  simp [Lit.wf, IntKind.min, IntKind.max, IntKind.signed, IntKind.bits] at h
  omega

/-! ### rounds -/
/-- From some number of rounds on. -/
theorem _root_.Go.Proofs.YthkaifddpjjmaaaW.PrintWords.Ev.get {α : Type} {g : Nat → Option α} {r : α} (h : Ev g r) : ∃ K, ∀ k, K ≤ k → g k = some r := h
theorem _root_.Go.Proofs.YthkaifddpjjmaaaW.PrintWords.Ev.mk {α : Type} {g : Nat → Option α} {r : α} (K : Nat) (h : ∀ k, K ≤ k → g k = some r) : Ev g r := ⟨K, h⟩
/-- One round more. -/
theorem _root_.Go.Proofs.YthkaifddpjjmaaaW.PrintWords.Ev.up {α : Type} {g f : Nat → Option α} {r : α} (k : Ev f r) (h : ∀ k, f k = some r → g (k + 1) = some r) : Ev g r := by
  obtain ⟨K, hK⟩ := k
  refine ⟨K + 1, fun k hk => ?_⟩
  obtain ⟨k, rfl⟩ : ∃ m, k = m + 1 := ⟨k - 1, by omega⟩
  exact h k (hK k (by omega))
theorem _root_.Go.Proofs.YthkaifddpjjmaaaW.PrintWords.Ev.eq {α : Type} {g : Nat → Option α} {r q : α} (h : Ev g r) (h' : Ev g q) : r = q := by
  obtain ⟨K, hK⟩ := h
  obtain ⟨L, hL⟩ := h'
  have h1 := hK (max K L) (Nat.le_max_left _ _)
  have h2 := hL (max K L) (Nat.le_max_right _ _)
  rw [h1] at h2
  exact Option.some.inj h2
theorem _root_.Go.Proofs.YthkaifddpjjmaaaW.PrintWords.Ev.cast {α : Type} {g : Nat → Option α} {r q : α} (h : Ev g r) (e : r = q) : Ev g q := e ▸ h

/-! ### lists -/
def By (l : List Int) : Prop := ∀ x ∈ l, 0 ≤ x ∧ x < 256
theorem By.nil : By [] := fun _ h => by cases h
theorem By.app {a b : List Int} (h : By a) (k : By b) : By (a ++ b) := fun x hx => by
  rcases List.mem_append.1 hx with h1 | h1
  · exact h x h1
  · exact k x h1
theorem By.one {x : Int} (h0 : 0 ≤ x) (h1 : x < 256) : By [x] := fun y hy => by
  rw [List.mem_singleton.1 hy]
  exact ⟨h0, h1⟩
theorem By.bytesOf (s : ByteArray) : By (bytesOf s) := fun x hx => by
  obtain ⟨b, _, rfl⟩ := List.mem_map.1 hx
  have := b.toNat_lt
  omega
theorem By.rd {l : List Int} (h : By l) (i : Int) : 0 ≤ rd l i ∧ rd l i < 256 := by
  unfold Go.Proofs.YthkaifddpjjmaaaW.PrintWords.rd
  rw [List.getD_eq_getElem?_getD]
  by_cases hi : i.toNat < l.length
  · rw [List.getElem?_eq_getElem hi]
    exact h _ (List.getElem_mem hi)
  · rw [List.getElem?_eq_none (by omega)]
    simp
theorem rd_nat (l : List Int) (i : Nat) (h : i < l.length) : rd l (i : Int) = l[i] := by
  unfold rd
  simp [List.getD_eq_getElem?_getD, h]
/-- A copy, element by element: one step. -/
theorem copy_step {α β : Type} (x0 : List α) (f : α → β) (z : β) (i : Nat) (h : i < x0.length) :
    ((x0.take i).map f ++ List.replicate (x0.length - i) z).set i (f x0[i]) = (x0.take (i + 1)).map f ++ List.replicate (x0.length - (i + 1)) z := by
  have hl : ((x0.take i).map f).length = i := by simp; omega
  have hr : List.replicate (x0.length - i) z = z :: List.replicate (x0.length - (i + 1)) z := by
    rw [show x0.length - i = (x0.length - (i + 1)) + 1 by omega, List.replicate_succ]
  rw [hr, List.set_append, if_neg (by omega), hl, Nat.sub_self, List.set_cons_zero, List.take_succ_eq_append_getElem h, List.map_append, List.append_assoc]
  rfl
theorem copy_len {α β : Type} (x0 : List α) (f : α → β) (z : β) (i : Nat) (h : i ≤ x0.length) : ((x0.take i).map f ++ List.replicate (x0.length - i) z).length = x0.length := by
  simp
  omega
theorem copy_start {α β : Type} (x0 : List α) (f : α → β) (z : β) : List.replicate x0.length z = (x0.take 0).map f ++ List.replicate (x0.length - 0) z := by simp
theorem copy_end {α β : Type} (x0 : List α) (f : α → β) (z : β) : (x0.take x0.length).map f ++ List.replicate (x0.length - x0.length) z = x0.map f := by simp

/-! ### bits -/
theorem i64_wrap_small {n : Int} (h0 : 0 ≤ n) (h1 : n < 9223372036854775808) : IntKind.i64.wrap n = n := by rw [IntKind.wrap_i64]; omega
theorem ofInt64 (a : Nat) (ha : a < 9223372036854775808) : (BitVec.ofInt 64 (a : Int)).toNat = a := by
  rw [BitVec.ofInt_natCast, BitVec.toNat_ofNat]
  exact Nat.mod_eq_of_lt (by omega)
theorem i64_and_nat (a b : Nat) (ha : a < 9223372036854775808) (hb : b < 9223372036854775808) : Go.bits .and .i64 (a : Int) (b : Int) = ((a &&& b : Nat) : Int) := by
  show IntKind.i64.wrap (((BitVec.ofInt 64 (a : Int)) &&& (BitVec.ofInt 64 (b : Int))).toNat : Int) = _
  rw [BitVec.toNat_and, ofInt64 a ha, ofInt64 b hb]
  have h_ : a &&& b ≤ a := Nat.and_le_left
  exact i64_wrap_small (n := ((a &&& b : Nat) : Int)) (Int.natCast_nonneg _) (by omega)
theorem i64_or_nat (a b : Nat) (ha : a < 9223372036854775808) (hb : b < 9223372036854775808) : Go.bits .or .i64 (a : Int) (b : Int) = ((a ||| b : Nat) : Int) := by
  show IntKind.i64.wrap (((BitVec.ofInt 64 (a : Int)) ||| (BitVec.ofInt 64 (b : Int))).toNat : Int) = _
  rw [BitVec.toNat_or, ofInt64 a ha, ofInt64 b hb]
  have h_ : a ||| b < 2 ^ 63 := Nat.or_lt_two_pow (by omega) (by omega)
  exact i64_wrap_small (n := ((a ||| b : Nat) : Int)) (Int.natCast_nonneg _) (by omega)
theorem i64_xor_nat (a b : Nat) (ha : a < 9223372036854775808) (hb : b < 9223372036854775808) : Go.bits .xor .i64 (a : Int) (b : Int) = ((a ^^^ b : Nat) : Int) := by
  show IntKind.i64.wrap (((BitVec.ofInt 64 (a : Int)) ^^^ (BitVec.ofInt 64 (b : Int))).toNat : Int) = _
  rw [BitVec.toNat_xor, ofInt64 a ha, ofInt64 b hb]
  have h_ : a ^^^ b < 2 ^ 63 := Nat.xor_lt_two_pow (by omega) (by omega)
  exact i64_wrap_small (n := ((a ^^^ b : Nat) : Int)) (Int.natCast_nonneg _) (by omega)
end Go.Proofs.Ythkaifddpjjmaaa.P
