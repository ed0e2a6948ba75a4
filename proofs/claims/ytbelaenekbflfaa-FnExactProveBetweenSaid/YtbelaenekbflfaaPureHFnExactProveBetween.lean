import Derived.Test.YtbelaenekbflfaaWAll
import Derived.Laws.BitsAllLaws
import Derived.Laws.Bits128
import Derived.Test.YtbelaenekbflfaaPx1
import Derived.Test.YtbelaenekbflfaaPx0
import Derived.Test.YtbelaenekbflfaaPx10
import Derived.Test.YtbelaenekbflfaaPx11
import Derived.Test.YtbelaenekbflfaaPx6
import Derived.Test.YtbelaenekbflfaaPx8
import Derived.Test.YtbelaenekbflfaaPx9
import Derived.Test.YtbelaenekbflfaaPx4
import Derived.Test.YtbelaenekbflfaaDg5
import Derived.Test.YtbelaenekbflfaaDg0
import Derived.Test.YtbelaenekbflfaaDg1
import Derived.Test.YtbelaenekbflfaaDg2
import Derived.Test.YtbelaenekbflfaaDg3
import Derived.Test.YtbelaenekbflfaaPx2
import Derived.Test.YtbelaenekbflfaaPx3
import Derived.Test.YtbelaenekbflfaaPx7
import Derived.Test.YtbelaenekbflfaaPx5
import Derived.Test.YtbelaenekbflfaaStr
import Derived.Laws.Strings
import Derived.Test.YtbelaenekbflfaaPx12
/- Plain facts about whole numbers, bytes, texts and rounds: no program in sight. No condition. -/
namespace Go.Proofs.Ytbelaenekbflfaa.P
open Go.RowKit Go.Proofs.YtbelaenekbflfaaW.PrintWords Go.Proofs.YtbelaenekbflfaaW.PrintLast Go.Proofs.YtbelaenekbflfaaW.PrintMore
set_option linter.unusedVariables false
set_option linter.unusedSimpArgs false

theorem w64 {x : Int} (h1 : -9223372036854775808 ≤ x) (h2 : x ≤ 9223372036854775807) : wrap64 x = x := by unfold wrap64; omega
theorem wf_u8 {x : Int} (h : (Lit.int .u8 x).wf = true) : 0 ≤ x ∧ x < 256 := by
  simp [Lit.wf, IntKind.min, IntKind.max, IntKind.signed, IntKind.bits] at h
  omega
theorem wf_i64 {x : Int} (h : (Lit.int .i64 x).wf = true) : -9223372036854775808 ≤ x ∧ x ≤ 9223372036854775807 := by
  simp [Lit.wf, IntKind.min, IntKind.max, IntKind.signed, IntKind.bits] at h
  omega

/-! ### rounds -/
/-- From some number of rounds on. -/
theorem _root_.Go.Proofs.YtbelaenekbflfaaW.PrintWords.Ev.get {α : Type} {g : Nat → Option α} {r : α} (h : Ev g r) : ∃ K, ∀ k, K ≤ k → g k = some r := h
theorem _root_.Go.Proofs.YtbelaenekbflfaaW.PrintWords.Ev.mk {α : Type} {g : Nat → Option α} {r : α} (K : Nat) (h : ∀ k, K ≤ k → g k = some r) : Ev g r := ⟨K, h⟩
/-- One round more. -/
theorem _root_.Go.Proofs.YtbelaenekbflfaaW.PrintWords.Ev.up {α : Type} {g f : Nat → Option α} {r : α} (k : Ev f r) (h : ∀ k, f k = some r → g (k + 1) = some r) : Ev g r := by
  obtain ⟨K, hK⟩ := k
  refine ⟨K + 1, fun k hk => ?_⟩
  obtain ⟨k, rfl⟩ : ∃ m, k = m + 1 := ⟨k - 1, by omega⟩
  exact h k (hK k (by omega))
theorem _root_.Go.Proofs.YtbelaenekbflfaaW.PrintWords.Ev.eq {α : Type} {g : Nat → Option α} {r q : α} (h : Ev g r) (h' : Ev g q) : r = q := by
  obtain ⟨K, hK⟩ := h
  obtain ⟨L, hL⟩ := h'
  have h1 := hK (max K L) (Nat.le_max_left _ _)
  have h2 := hL (max K L) (Nat.le_max_right _ _)
  rw [h1] at h2
  exact Option.some.inj h2
theorem _root_.Go.Proofs.YtbelaenekbflfaaW.PrintWords.Ev.cast {α : Type} {g : Nat → Option α} {r q : α} (h : Ev g r) (e : r = q) : Ev g q := e ▸ h

/-! ### lists -/
def By (l : List Int) : Prop := ∀ x ∈ l, 0 ≤ x ∧ x < 256
theorem By.nil : By [] := fun _ h => by cases h
theorem By.app {a b : List Int} (h : By a) (k : By b) : By (a ++ b) := fun x hx => by
  rcases List.mem_append.1 hx with h1 | h1
  · exact h x h1
  · exact k x h1
theorem By.one {x : Int} (h0 : 0 ≤ x) (h1 : x < 256) : By [x] := fun y hy => by
  rw [List.mem_singleton.1 hy]
  exact ⟨h0, h1⟩
theorem By.bytesOf (s : ByteArray) : By (bytesOf s) := fun x hx => by
  obtain ⟨b, _, rfl⟩ := List.mem_map.1 hx
  have := b.toNat_lt
  omega
theorem By.rd {l : List Int} (h : By l) (i : Int) : 0 ≤ rd l i ∧ rd l i < 256 := by
  unfold Go.Proofs.YtbelaenekbflfaaW.PrintWords.rd
  rw [List.getD_eq_getElem?_getD]
  by_cases hi : i.toNat < l.length
  · rw [List.getElem?_eq_getElem hi]
    exact h _ (List.getElem_mem hi)
  · rw [List.getElem?_eq_none (by omega)]
    simp
theorem rd_nat (l : List Int) (i : Nat) (h : i < l.length) : rd l (i : Int) = l[i] := by
  unfold rd
  simp [List.getD_eq_getElem?_getD, h]
/-- A copy, element by element: one step. -/
theorem copy_step {α β : Type} (x0 : List α) (f : α → β) (z : β) (i : Nat) (h : i < x0.length) :
    ((x0.take i).map f ++ List.replicate (x0.length - i) z).set i (f x0[i]) = (x0.take (i + 1)).map f ++ List.replicate (x0.length - (i + 1)) z := by
  have hl : ((x0.take i).map f).length = i := by simp; omega
  have hr : List.replicate (x0.length - i) z = z :: List.replicate (x0.length - (i + 1)) z := by
    rw [show x0.length - i = (x0.length - (i + 1)) + 1 by omega, List.replicate_succ]
  rw [hr, List.set_append, if_neg (by omega), hl, Nat.sub_self, List.set_cons_zero, List.take_succ_eq_append_getElem h, List.map_append, List.append_assoc]
  rfl
theorem copy_len {α β : Type} (x0 : List α) (f : α → β) (z : β) (i : Nat) (h : i ≤ x0.length) : ((x0.take i).map f ++ List.replicate (x0.length - i) z).length = x0.length := by
  simp
  omega
theorem copy_start {α β : Type} (x0 : List α) (f : α → β) (z : β) : List.replicate x0.length z = (x0.take 0).map f ++ List.replicate (x0.length - 0) z := by simp
theorem copy_end {α β : Type} (x0 : List α) (f : α → β) (z : β) : (x0.take x0.length).map f ++ List.replicate (x0.length - x0.length) z = x0.map f := by simp

/-! ### bits -/
theorem i64_wrap_small {n : Int} (h0 : 0 ≤ n) (h1 : n < 9223372036854775808) : IntKind.i64.wrap n = n := by rw [IntKind.wrap_i64]; omega
theorem ofInt64 (a : Nat) (ha : a < 9223372036854775808) : (BitVec.ofInt 64 (a : Int)).toNat = a := by
  rw [BitVec.ofInt_natCast, BitVec.toNat_ofNat]
  exact Nat.mod_eq_of_lt (by omega)
theorem i64_and_nat (a b : Nat) (ha : a < 9223372036854775808) (hb : b < 9223372036854775808) : Go.bits .and .i64 (a : Int) (b : Int) = ((a &&& b : Nat) : Int) := by
  show IntKind.i64.wrap (((BitVec.ofInt 64 (a : Int)) &&& (BitVec.ofInt 64 (b : Int))).toNat : Int) = _
  rw [BitVec.toNat_and, ofInt64 a ha, ofInt64 b hb]
  have h_ : a &&& b ≤ a := Nat.and_le_left
  exact i64_wrap_small (n := ((a &&& b : Nat) : Int)) (Int.natCast_nonneg _) (by omega)
theorem i64_or_nat (a b : Nat) (ha : a < 9223372036854775808) (hb : b < 9223372036854775808) : Go.bits .or .i64 (a : Int) (b : Int) = ((a ||| b : Nat) : Int) := by
  show IntKind.i64.wrap (((BitVec.ofInt 64 (a : Int)) ||| (BitVec.ofInt 64 (b : Int))).toNat : Int) = _
  rw [BitVec.toNat_or, ofInt64 a ha, ofInt64 b hb]
  have h_ : a ||| b < 2 ^ 63 := Nat.or_lt_two_pow (by omega) (by omega)
  exact i64_wrap_small (n := ((a ||| b : Nat) : Int)) (Int.natCast_nonneg _) (by omega)
theorem i64_xor_nat (a b : Nat) (ha : a < 9223372036854775808) (hb : b < 9223372036854775808) : Go.bits .xor .i64 (a : Int) (b : Int) = ((a ^^^ b : Nat) : Int) := by
  show IntKind.i64.wrap (((BitVec.ofInt 64 (a : Int)) ^^^ (BitVec.ofInt 64 (b : Int))).toNat : Int) = _
  rw [BitVec.toNat_xor, ofInt64 a ha, ofInt64 b hb]
  have h_ : a ^^^ b < 2 ^ 63 := Nat.xor_lt_two_pow (by omega) (by omega)
  exact i64_wrap_small (n := ((a ^^^ b : Nat) : Int)) (Int.natCast_nonneg _) (by omega)
end Go.Proofs.Ytbelaenekbflfaa.P
/- The laws' helpers: copies, comparisons, marks and what is held, each by what it answers. No condition but bounds on lengths. -/
namespace Go.Proofs.Ytbelaenekbflfaa.P
open Go.RowKit Go.Proofs.YtbelaenekbflfaaW.PrintWords Go.Proofs.YtbelaenekbflfaaW.PrintLast Go.Proofs.YtbelaenekbflfaaW.PrintMore
set_option linter.unusedVariables false
set_option linter.unusedSimpArgs false
end Go.Proofs.Ytbelaenekbflfaa.P
/- The laws' reckoning of sizes. No condition but bounds on what one text may hold. -/
namespace Go.Proofs.Ytbelaenekbflfaa.P
open Go.RowKit Go.Proofs.YtbelaenekbflfaaW.PrintWords Go.Proofs.YtbelaenekbflfaaW.PrintLast Go.Proofs.YtbelaenekbflfaaW.PrintMore
set_option linter.unusedVariables false
set_option linter.unusedSimpArgs false
/-- What is left behind two texts; -1: too much. -/
def szM2 (a b : Nat) (left : Int) : Int := if left - a < 0 then -1 else if left - a - b < 0 then -1 else left - a - b
theorem szM2_ok {a b : Nat} {left : Int} (hl : left ≤ 1048576) (ha : a ≤ 9223372036854775807) (hb : b ≤ 9223372036854775807) (h : ¬ szM2 a b left < 0) : (a : Int) + b ≤ left ∧ szM2 a b left = left - a - b := by
  unfold szM2 at h ⊢
  split at h
  · omega
  · split at h
    · omega
    · rw [if_neg (by assumption), if_neg (by assumption)]
      omega
theorem szM2_le (a b : Nat) (left : Int) (h : -1 ≤ left) : szM2 a b left ≤ left ∧ -1 ≤ szM2 a b left := by
  unfold szM2
  split
  · omega
  · split <;> omega
theorem szPair_eq (a b : ByteArray) (left : Int) (h0 : -1 ≤ left) (h1 : left ≤ 1048576) (ha : a.size ≤ 9223372036854775807) (hb : b.size ≤ 9223372036854775807) : laws_szPair.f a b left = some (szM2 a.size b.size left) := by
  unfold laws_szPair.f szM2
  rw [w64 (x := left - (a.size : Int)) (by omega) (by omega)]
  by_cases c : left - (a.size : Int) < 0
  · rw [if_pos c, if_pos c]
  · rw [if_neg c, if_neg c, w64 (by omega) (by omega)]
    by_cases c2 : left - (a.size : Int) - (b.size : Int) < 0
    · rw [if_pos c2, if_pos c2]
    · rw [if_neg c2, if_neg c2]
end Go.Proofs.Ytbelaenekbflfaa.P
/- The laws' helpers over rows of pairs, of orders, of texts: copies, comparisons, marks, what is held, sizes. No condition but bounds on lengths. -/
namespace Go.Proofs.Ytbelaenekbflfaa.P
open Go.RowKit Go.Proofs.YtbelaenekbflfaaW.PrintWords Go.Proofs.YtbelaenekbflfaaW.PrintLast Go.Proofs.YtbelaenekbflfaaW.PrintMore
set_option linter.unusedVariables false
set_option linter.unusedSimpArgs false
/-- What a marked row holds: el of its first number, its next, .. -/
def marksG {α : Type} (el : Int → α) (s : Int) : Int → Nat → List α
  | _, 0 => []
  | k, n + 1 => el k :: marksG el s (k + s) n
theorem marksG_length {α : Type} (el : Int → α) (s : Int) (n : Nat) : ∀ k : Int, (marksG el s k n).length = n := by
  induction n with
  | zero => intro k; rfl
  | succ n ih => intro k; simp [marksG, ih]
theorem marksG_get {α : Type} (el : Int → α) (s : Int) (n : Nat) : ∀ (k : Int) (i : Nat), i < n → (marksG el s k n)[i]? = some (el (k + s * i)) := by
  induction n with
  | zero => intro k i h; omega
  | succ n ih =>
    intro k i h
    cases i with
    | zero => simp [marksG]
    | succ i =>
      simp only [marksG, List.getElem?_cons_succ]
      rw [ih (k + s) i (by omega), show k + s + s * (i : Int) = k + s * ((i + 1 : Nat) : Int) by rw [Int.natCast_add, Int.mul_add]; simp; omega]
theorem marksG_succ {α : Type} (el : Int → α) (s : Int) (n : Nat) : ∀ k : Int, marksG el s k (n + 1) = marksG el s k n ++ [el (k + s * n)] := by
  induction n with
  | zero => intro k; simp [marksG]
  | succ n ih =>
    intro k
    rw [marksG, ih (k + s), marksG, List.cons_append, show k + s + s * (n : Int) = k + s * ((n + 1 : Nat) : Int) by rw [Int.natCast_add, Int.mul_add]; simp; omega]
theorem marksG_set {α : Type} (el : Int → α) (s : Int) (l : List α) (k : Int) (i : Nat) (h : i < l.length) : (marksG el s k i ++ l.drop i).set i (el (k + s * i)) = marksG el s k (i + 1) ++ l.drop (i + 1) := by
  rw [List.set_append, if_neg (by rw [marksG_length]; omega), marksG_length, Nat.sub_self, List.drop_eq_getElem_cons h, List.set_cons_zero, marksG_succ, List.append_assoc]
  rfl
theorem marksG_cut {α : Type} (el : Int → α) (s : Int) (l : List α) (k : Int) (i : Nat) (h : i ≤ l.length) : (marksG el s k i ++ l.drop i).length = l.length := by
  rw [List.length_append, marksG_length, List.length_drop]
  omega
theorem rdOf_nat (l : List ByteArray) (i : Nat) (h : i < l.length) : rdOf ByteArray.empty l (i : Int) = l[i] := by
  unfold rdOf
  simp [List.getD_eq_getElem?_getD, h]
theorem size_le_sum {l : List ByteArray} {s : ByteArray} (h : s ∈ l) : s.size ≤ (l.map ByteArray.size).sum := by
  induction l with
  | nil => cases h
  | cons x l ih =>
    rcases List.mem_cons.1 h with rfl | h
    · simp
    · have := ih h; simp; omega
theorem markText_loop (n : Nat) : ∀ s : ByteArray, s.size + n ≤ 9223372036854775000 → ∃ r, Ev (fun k => laws_markText.l0 k (n : Int) s) r := by
  induction n using Nat.strongRecOn with
  | _ n ih =>
    intro s hs
    rcases Nat.eq_zero_or_pos n with rfl | hn
    · refine ⟨_, Ev.up (Ev.now ((⟨#[109]⟩ : ByteArray) ++ s)) (fun k _ => ?_)⟩
      simp only [laws_markText.l0]
      rw [if_neg (by omega), if_pos (by omega)]
    · have hq : Int.tdiv (n : Int) 10 = ((n / 10 : Nat) : Int) := by rw [Int.tdiv_eq_ediv_of_nonneg (by omega)]; rfl
      have hz : ∀ x : Int, (strOfNums [x]).size = 1 := fun x => by rw [strOfNums_size]; rfl
      obtain ⟨r, hr⟩ := ih (n / 10) (by omega) (strOfNums [(wrap64 (48 + (Int.tmod (n : Int) 10))) % 256] ++ s) (by rw [ByteArray.size_append, hz]; omega)
      refine ⟨r, Ev.up hr (fun k hk => ?_)⟩
      simp only [laws_markText.l0, Option.bind_some]
      rw [if_pos (by omega), if_pos (by rw [hz]; omega), hq, w64 (by omega) (by omega)]
      exact hk
theorem markText_some (k : Int) (h : k ≤ 1000000000000000) : ∃ r, Ev (fun n => laws_markText.f n k) r := by
  by_cases c : k ≤ 0
  · refine ⟨_, (Ev.now (⟨#[109, 48]⟩ : ByteArray)).congr (fun n => ?_)⟩
    unfold laws_markText.f
    rw [if_pos c]
  · obtain ⟨m, rfl⟩ := Int.eq_ofNat_of_zero_le (show 0 ≤ k by omega)
    obtain ⟨r, hr⟩ := markText_loop m (⟨#[]⟩ : ByteArray) (by show 0 + m ≤ _; omega)
    refine ⟨r, hr.congr (fun n => ?_)⟩
    unfold laws_markText.f
    rw [if_neg c]
instance : Nonempty ByteArray := ⟨⟨#[]⟩⟩
/-- A number's mark. -/
noncomputable def mtx (k : Int) : ByteArray := Classical.epsilon (fun r => Ev (fun n => laws_markText.f n k) r)
theorem markText_ev (k : Int) (h : k ≤ 1000000000000000) : Ev (fun n => laws_markText.f n k) (mtx k) := Classical.epsilon_spec (markText_some k h)

theorem rd_39_nat (l : List S39) (i : Nat) (h : i < l.length) : rd_T39 l (i : Int) = l[i] := by
  unfold rd_T39
  simp [List.getD_eq_getElem?_getD, h]
theorem rd_39_set (l : List S39) (i : Nat) (h : i < l.length) (a : S39) : rd_T39 (l.set i a) (i : Int) = a := by
  rw [rd_39_nat _ i (by simpa using h)]
  simp
theorem rd_75_nat (l : List S75) (i : Nat) (h : i < l.length) : rd_T75 l (i : Int) = l[i] := by
  unfold rd_T75
  simp [List.getD_eq_getElem?_getD, h]
def cvtPair (p : S75) : S39 := ⟨p.f0, p.f1⟩
theorem toPairS_loop (x0 : List S75) (hn : x0.length ≤ 1000000000000) : ∀ d i : Nat, x0.length - i = d → i ≤ x0.length →
    Ev (fun k => laws_toPairS.l0 k x0 ((x0.take i).map cvtPair ++ List.replicate (x0.length - i) z39) (i : Int)) (x0.map cvtPair) := by
  intro d
  induction d with
  | zero =>
    intro i hd hi
    obtain rfl : i = x0.length := by omega
    refine Ev.up (Ev.now (x0.map cvtPair)) (fun k _ => ?_)
    simp only [laws_toPairS.l0]
    rw [if_neg (by omega), copy_end]
  | succ d ih =>
    intro i hd hi
    refine Ev.up (ih (i + 1) (by omega) (by omega)) (fun k h => ?_)
    have hl := copy_len x0 cvtPair z39 i hi
    have hs := copy_step x0 cvtPair z39 i (by omega)
    simp only [laws_toPairS.l0, laws_toPair.f, Option.bind_some]
    rw [if_pos (by omega), if_pos (by omega), if_pos (by rw [hl]; omega), rd_75_nat x0 i (by omega), Int.toNat_natCast, w64 (by omega) (by omega)]
    rw [cvtPair] at hs
    rw [hs]
    exact h
theorem toPairS_ev (l : List S75) (hn : l.length ≤ 1000000000000) : Ev (fun k => laws_toPairS.f k l) (l.map cvtPair) := by
  obtain ⟨K, hK⟩ := Ev.get (toPairS_loop l hn _ 0 rfl (by omega))
  refine ⟨K, fun k hk => ?_⟩
  have h := hK k hk
  show laws_toPairS.f k l = _
  unfold laws_toPairS.f
  rw [if_pos (by omega), if_pos (by omega), Int.toNat_natCast, copy_start l cvtPair]
  exact h
theorem eqPair_self (a0 : ByteArray) (a1 : ByteArray) : laws_eqPair.f a0 a1 a0 a1 = some true := by
  unfold laws_eqPair.f
  simp
theorem eqPairS_loop (l : List S39) (hn : l.length ≤ 1000000000000) : ∀ d i : Nat, l.length - i = d → i ≤ l.length → Ev (fun k => laws_eqPairS.l0 k l l (i : Int)) true := by
  intro d
  induction d with
  | zero =>
    intro i hd hi
    refine Ev.up (Ev.now true) (fun k _ => ?_)
    simp only [laws_eqPairS.l0]
    rw [if_neg (by omega)]
  | succ d ih =>
    intro i hd hi
    refine Ev.up (ih (i + 1) (by omega) (by omega)) (fun k h => ?_)
    simp only [laws_eqPairS.l0, eqPair_self, Option.bind_some]
    rw [if_pos (by omega), if_pos (by omega), if_pos (by omega), if_pos trivial, w64 (by omega) (by omega)]
    exact h
theorem eqPairS_ev (l : List S39) (hn : l.length ≤ 1000000000000) : Ev (fun k => laws_eqPairS.f k l l) true := by
  obtain ⟨K, hK⟩ := Ev.get (eqPairS_loop l hn _ 0 rfl (by omega))
  refine ⟨K, fun k hk => ?_⟩
  show laws_eqPairS.f k l l = some true
  unfold laws_eqPairS.f
  rw [if_pos rfl]
  exact hK k hk
noncomputable def elPair (k : Int) : S39 := ⟨mtx (k), mtx (k + 1)⟩
noncomputable def marksPair (k : Int) (n : Nat) : List S39 := marksG elPair 2 k n
theorem markPairS_loop (l : List S39) (k0 : Int) (h0 : 0 ≤ k0) (hk0 : k0 ≤ 100000000000000) (hn : l.length ≤ 1000000000000) : ∀ d i : Nat, l.length - i = d → i ≤ l.length →
    Ev (fun k => laws_markPairS.l0 k (marksPair k0 i ++ l.drop i) (k0 + 2 * (i : Int)) (i : Int)) (k0 + 2 * (l.length : Int), marksPair k0 l.length) := by
  intro d
  induction d with
  | zero =>
    intro i hd hi
    obtain rfl : i = l.length := by omega
    refine Ev.up (Ev.now (k0 + 2 * (l.length : Int), marksPair k0 l.length)) (fun k _ => ?_)
    simp only [laws_markPairS.l0]
    rw [if_neg (by unfold marksPair; rw [marksG_cut _ _ _ _ _ (Nat.le_refl _)]; omega), List.drop_length, List.append_nil]
  | succ d ih =>
    intro i hd hi
    obtain ⟨K0, e0⟩ := Ev.get (markText_ev ((k0 + 2 * (i : Int))) (by omega))
    obtain ⟨K1, e1⟩ := Ev.get (markText_ev ((k0 + 2 * (i : Int)) + 1) (by omega))
    obtain ⟨K9, e9⟩ := Ev.get (ih (i + 1) (by omega) (by omega))
    refine ⟨K0 + K1 + K9 + 1, fun k hk => ?_⟩
    obtain ⟨k, rfl⟩ : ∃ j, k = j + 1 := ⟨k - 1, by omega⟩
    have hl : (marksPair k0 i ++ l.drop i).length = l.length := marksG_cut _ _ _ _ _ (by omega)
    have hs : (marksPair k0 i ++ l.drop i).set i (elPair (k0 + 2 * (i : Int))) = marksPair k0 (i + 1) ++ l.drop (i + 1) := marksG_set _ _ _ _ _ (by omega)
    have hil : i < (marksPair k0 i ++ l.drop i).length := by omega
    show laws_markPairS.l0 (k + 1) _ _ _ = _
    generalize marksPair k0 i ++ l.drop i = X at hl hs hil ⊢
    simp only [laws_markPairS.l0]
    rw [if_pos (by omega), e0 _ (by omega), Option.bind_some, if_pos (by omega), Option.bind_some, Int.toNat_natCast, w64 (x := k0 + 2 * (i : Int) + 1) (by omega) (by omega), e1 _ (by omega), Option.bind_some, rd_39_set X i hil, List.set_set]
    rw [show X.set i (⟨mtx (k0 + 2 * (i : Int)), mtx (k0 + 2 * (i : Int) + 1)⟩ : S39) = X.set i (elPair (k0 + 2 * (i : Int))) from rfl, hs, w64 (by omega) (by omega), w64 (by omega) (by omega)]
    have e : k0 + 2 * (i : Int) + 1 + 1 = k0 + 2 * ((i + 1 : Nat) : Int) := by omega
    have e2 : ((i : Int) + 1) = ((i + 1 : Nat) : Int) := by omega
    rw [e, e2]
    exact e9 _ (by omega)
theorem markPairS_ev (l : List S39) (k0 : Int) (h0 : 0 ≤ k0) (hk0 : k0 ≤ 100000000000000) (hn : l.length ≤ 1000000000000) : Ev (fun k => laws_markPairS.f k l k0) (k0 + 2 * (l.length : Int), marksPair k0 l.length) := by
  obtain ⟨K, hK⟩ := Ev.get (markPairS_loop l k0 h0 hk0 hn _ 0 rfl (by omega))
  refine ⟨K, fun k hk => ?_⟩
  have h := hK k hk
  rw [show marksPair k0 0 = [] from rfl, List.nil_append, List.drop_zero, show k0 + 2 * ((0 : Nat) : Int) = k0 by omega] at h
  exact h
theorem marksPair_length (k : Int) (n : Nat) : (marksPair k n).length = n := marksG_length _ _ _ _
def szPairL : List S75 → Int → Int
  | [], left => left
  | p :: l, left => if szM2 p.f0.size p.f1.size left < 0 then -1 else szPairL l (szM2 p.f0.size p.f1.size left)
def szPairM (l : List S75) (left : Int) : Int := if left - l.length < 0 then -1 else szPairL l (left - l.length)
theorem szPairL_ok : ∀ (l : List S75) (left : Int), left ≤ 1048576 → (∀ p ∈ l, p.f0.size ≤ 9223372036854775807 ∧ p.f1.size ≤ 9223372036854775807) → ¬ szPairL l left < 0 → szPairL l left ≤ left ∧ ∀ p ∈ l, (p.f0.size : Int) + p.f1.size ≤ left := by
  intro l
  induction l with
  | nil => intro left _ _ _; exact ⟨Int.le_refl _, fun p hp => by cases hp⟩
  | cons p l ih =>
    intro left h1 hp h
    rw [szPairL] at h ⊢
    have h2 := hp p List.mem_cons_self
    split at h
    · omega
    · rename_i c
      rw [if_neg c]
      obtain ⟨h3, h4⟩ := szM2_ok h1 h2.1 h2.2 c
      obtain ⟨h5, h6⟩ := ih _ (by omega) (fun q hq => hp q (List.mem_cons_of_mem _ hq)) h
      refine ⟨by omega, fun q hq => ?_⟩
      rcases List.mem_cons.1 hq with rfl | hq
      · exact h3
      · have := h6 q hq; omega
theorem szPairM_ok {l : List S75} {left : Int} (h1 : left ≤ 1048576) (hp : ∀ p ∈ l, p.f0.size ≤ 9223372036854775807 ∧ p.f1.size ≤ 9223372036854775807) (h : ¬ szPairM l left < 0) : szPairM l left ≤ left ∧ (l.length : Int) ≤ left ∧ ∀ p ∈ l, (p.f0.size : Int) + p.f1.size ≤ left := by
  unfold szPairM at h ⊢
  split at h
  · omega
  · rename_i c
    rw [if_neg c]
    obtain ⟨h2, h3⟩ := szPairL_ok l _ (by omega) hp h
    exact ⟨by omega, by omega, fun p hq => by have := h3 p hq; omega⟩
theorem szPairS_loop (l : List S75) (hn : l.length ≤ 1048576) (hp : ∀ p ∈ l, p.f0.size ≤ 9223372036854775807 ∧ p.f1.size ≤ 9223372036854775807) : ∀ (d i : Nat) (left : Int), l.length - i = d → i ≤ l.length → 0 ≤ left → left ≤ 1048576 →
    Ev (fun k => laws_szPairS.l0 k l left (i : Int)) (szPairL (l.drop i) left) := by
  intro d
  induction d with
  | zero =>
    intro i left hd hi h0 h1
    refine Ev.up (Ev.now _) (fun k _ => ?_)
    simp only [laws_szPairS.l0]
    rw [if_neg (by omega), List.drop_eq_nil_of_le (by omega)]
    rfl
  | succ d ih =>
    intro i left hd hi h0 h1
    have hil : i < l.length := by omega
    have hq := hp l[i] (List.getElem_mem hil)
    rw [List.drop_eq_getElem_cons hil, szPairL]
    by_cases c : szM2 l[i].f0.size l[i].f1.size left < 0
    · rw [if_pos c]
      refine Ev.up (Ev.now (-1)) (fun k _ => ?_)
      simp only [laws_szPairS.l0]
      rw [if_pos (by omega), if_pos (by omega), rd_75_nat l i hil, szPair_eq _ _ left (by omega) h1 hq.1 hq.2, Option.bind_some, if_pos c]
    · rw [if_neg c]
      obtain ⟨h3, h4⟩ := szM2_ok h1 hq.1 hq.2 c
      refine Ev.up (ih (i + 1) _ (by omega) (by omega) (by omega) (by omega)) (fun k hk => ?_)
      simp only [laws_szPairS.l0]
      rw [if_pos (by omega), if_pos (by omega), rd_75_nat l i hil, szPair_eq _ _ left (by omega) h1 hq.1 hq.2, Option.bind_some, if_neg c, w64 (by omega) (by omega)]
      exact hk
theorem szPairS_ev (l : List S75) (left : Int) (h0 : -1 ≤ left) (h1 : left ≤ 1048576) (hl : l.length ≤ 9223372036854775807) (hp : ∀ p ∈ l, p.f0.size ≤ 9223372036854775807 ∧ p.f1.size ≤ 9223372036854775807) : Ev (fun k => laws_szPairS.f k l left) (szPairM l left) := by
  unfold szPairM
  by_cases c : left - (l.length : Int) < 0
  · rw [if_pos c]
    refine (Ev.now (-1)).congr (fun k => ?_)
    unfold laws_szPairS.f
    rw [w64 (by omega) (by omega), if_pos c]
  · rw [if_neg c]
    refine (szPairS_loop l (by omega) hp _ 0 _ rfl (by omega) (by omega) (by omega)).congr (fun k => ?_)
    unfold laws_szPairS.f
    rw [w64 (by omega) (by omega), if_neg c]
    rfl
theorem eqStringS_loop (l : List ByteArray) (hn : l.length ≤ 1000000000000) : ∀ d i : Nat, l.length - i = d → i ≤ l.length → Ev (fun k => laws_eqStringS.l0 k l l (i : Int)) true := by
  intro d
  induction d with
  | zero =>
    intro i hd hi
    refine Ev.up (Ev.now true) (fun k _ => ?_)
    simp only [laws_eqStringS.l0]
    rw [if_neg (by omega)]
  | succ d ih =>
    intro i hd hi
    refine Ev.up (ih (i + 1) (by omega) (by omega)) (fun k h => ?_)
    simp only [laws_eqStringS.l0]
    rw [if_pos (by omega), if_pos (by omega), if_pos (by omega), if_pos trivial, w64 (by omega) (by omega)]
    exact h
theorem eqStringS_ev (l : List ByteArray) (hn : l.length ≤ 1000000000000) : Ev (fun k => laws_eqStringS.f k l l) true := by
  obtain ⟨K, hK⟩ := Ev.get (eqStringS_loop l hn _ 0 rfl (by omega))
  refine ⟨K, fun k hk => ?_⟩
  show laws_eqStringS.f k l l = some true
  unfold laws_eqStringS.f
  rw [if_pos rfl]
  exact hK k hk
noncomputable def marksStr (k : Int) (n : Nat) : List ByteArray := marksG mtx 1 k n
theorem marksStr_length (k : Int) (n : Nat) : (marksStr k n).length = n := marksG_length _ _ _ _
theorem markStringS_loop (l : List ByteArray) (k0 : Int) (h0 : 0 ≤ k0) (hk0 : k0 ≤ 100000000000000) (hn : l.length ≤ 1000000000000) : ∀ d i : Nat, l.length - i = d → i ≤ l.length →
    Ev (fun k => laws_markStringS.l0 k (marksStr k0 i ++ l.drop i) (k0 + 1 * (i : Int)) (i : Int)) (k0 + (l.length : Int), marksStr k0 l.length) := by
  intro d
  induction d with
  | zero =>
    intro i hd hi
    obtain rfl : i = l.length := by omega
    refine Ev.up (Ev.now (k0 + (l.length : Int), marksStr k0 l.length)) (fun k _ => ?_)
    simp only [laws_markStringS.l0]
    rw [if_neg (by unfold marksStr; rw [marksG_cut _ _ _ _ _ (Nat.le_refl _)]; omega), List.drop_length, List.append_nil, Int.one_mul]
  | succ d ih =>
    intro i hd hi
    obtain ⟨K0, e0⟩ := Ev.get (markText_ev (k0 + 1 * (i : Int)) (by omega))
    obtain ⟨K9, e9⟩ := Ev.get (ih (i + 1) (by omega) (by omega))
    refine ⟨K0 + K9 + 1, fun k hk => ?_⟩
    obtain ⟨k, rfl⟩ : ∃ j, k = j + 1 := ⟨k - 1, by omega⟩
    have hl : (marksStr k0 i ++ l.drop i).length = l.length := marksG_cut _ _ _ _ _ (by omega)
    have hs : (marksStr k0 i ++ l.drop i).set i (mtx (k0 + 1 * (i : Int))) = marksStr k0 (i + 1) ++ l.drop (i + 1) := marksG_set _ _ _ _ _ (by omega)
    show laws_markStringS.l0 (k + 1) _ _ _ = _
    simp only [laws_markStringS.l0]
    rw [if_pos (by rw [hl]; omega), e0 _ (by omega), Option.bind_some, if_pos (by omega), Int.toNat_natCast, hs, w64 (by omega) (by omega), w64 (by omega) (by omega)]
    have e : k0 + 1 * (i : Int) + 1 = k0 + 1 * ((i + 1 : Nat) : Int) := by omega
    have e2 : ((i : Int) + 1) = ((i + 1 : Nat) : Int) := by omega
    rw [e, e2]
    exact e9 _ (by omega)
theorem markStringS_ev (l : List ByteArray) (k0 : Int) (h0 : 0 ≤ k0) (hk0 : k0 ≤ 100000000000000) (hn : l.length ≤ 1000000000000) : Ev (fun k => laws_markStringS.f k l k0) (k0 + (l.length : Int), marksStr k0 l.length) := by
  obtain ⟨K, hK⟩ := Ev.get (markStringS_loop l k0 h0 hk0 hn _ 0 rfl (by omega))
  refine ⟨K, fun k hk => ?_⟩
  have h := hK k hk
  rw [show marksStr k0 0 = [] from rfl, List.nil_append, List.drop_zero, show k0 + 1 * ((0 : Nat) : Int) = k0 by omega] at h
  exact h
theorem heldStringS_loop (n : Nat) (k0 : Int) (h0 : 0 ≤ k0) (hk0 : k0 ≤ 100000000000000) (hn : n ≤ 1000000000000) : ∀ d i : Nat, n - i = d → i ≤ n →
    Ev (fun k => laws_heldStringS.l0 k (marksStr k0 n) (k0 + 1 * (i : Int)) (i : Int)) (k0 + (n : Int)) := by
  intro d
  induction d with
  | zero =>
    intro i hd hi
    obtain rfl : i = n := by omega
    refine Ev.up (Ev.now (k0 + (i : Int))) (fun k _ => ?_)
    simp only [laws_heldStringS.l0]
    rw [if_neg (by rw [marksStr_length]; omega), Int.one_mul]
  | succ d ih =>
    intro i hd hi
    obtain ⟨K0, e0⟩ := Ev.get (markText_ev (k0 + 1 * (i : Int)) (by omega))
    obtain ⟨K9, e9⟩ := Ev.get (ih (i + 1) (by omega) (by omega))
    refine ⟨K0 + K9 + 1, fun k hk => ?_⟩
    obtain ⟨k, rfl⟩ : ∃ j, k = j + 1 := ⟨k - 1, by omega⟩
    have hr : rdOf ByteArray.empty (marksStr k0 n) (i : Int) = mtx (k0 + 1 * (i : Int)) := by
      rw [rdOf_nat _ i (by rw [marksStr_length]; omega)]
      have := marksG_get mtx 1 n k0 i (by omega)
      exact (List.getElem?_eq_some_iff.1 this).2
    show laws_heldStringS.l0 (k + 1) _ _ _ = _
    simp only [laws_heldStringS.l0]
    rw [if_pos (by rw [marksStr_length]; omega), if_pos (by omega), e0 _ (by omega), Option.bind_some, hr, if_pos rfl, w64 (by omega) (by omega), w64 (by omega) (by omega)]
    have e : k0 + 1 * (i : Int) + 1 = k0 + 1 * ((i + 1 : Nat) : Int) := by omega
    have e2 : ((i : Int) + 1) = ((i + 1 : Nat) : Int) := by omega
    rw [e, e2]
    exact e9 _ (by omega)
theorem heldStringS_ev (n : Nat) (k0 : Int) (h0 : 0 ≤ k0) (hk0 : k0 ≤ 100000000000000) (hn : n ≤ 1000000000000) : Ev (fun k => laws_heldStringS.f k (marksStr k0 n) k0) (k0 + (n : Int)) := by
  obtain ⟨K, hK⟩ := Ev.get (heldStringS_loop n k0 h0 hk0 hn _ 0 rfl (by omega))
  refine ⟨K, fun k hk => ?_⟩
  have h := hK k hk
  rw [show k0 + 1 * ((0 : Nat) : Int) = k0 by omega] at h
  exact h
end Go.Proofs.Ytbelaenekbflfaa.P
/- The hash of a text, and the shard of a key: the program's and the reference's answer what the model answers. No condition but bounds on lengths. -/
namespace Go.Proofs.Ytbelaenekbflfaa.P
open Go.RowKit Go.Proofs.YtbelaenekbflfaaW.PrintWords Go.Proofs.YtbelaenekbflfaaW.PrintLast Go.Proofs.YtbelaenekbflfaaW.PrintMore
set_option linter.unusedVariables false
set_option linter.unusedSimpArgs false
/-- One byte more. -/
def hashB (h b : Int) : Int := (((h.toNat ^^^ b.toNat : Nat) : Int) * 16777619) % 4294967296
def hashL (l : List Int) (h : Int) : Int := l.foldl hashB h
def hashM (s : ByteArray) : Int := hashL (bytesOf s) 2166136261
theorem hashB_range (h b : Int) : 0 ≤ hashB h b ∧ hashB h b < 4294967296 := by unfold hashB; omega
theorem hashL_range (l : List Int) : ∀ h : Int, 0 ≤ h → h < 4294967296 → 0 ≤ hashL l h ∧ hashL l h < 4294967296 := by
  induction l with
  | nil => intro h h0 h1; exact ⟨h0, h1⟩
  | cons b l ih => intro h h0 h1; exact ih _ (hashB_range h b).1 (hashB_range h b).2
theorem hashM_range (s : ByteArray) : 0 ≤ hashM s ∧ hashM s < 4294967296 := hashL_range _ _ (by omega) (by omega)
theorem bt_drop (s : ByteArray) (i : Nat) (h : i < s.size) : (bytesOf s).drop i = bt s (i : Int) :: (bytesOf s).drop (i + 1) := by
  have hl : i < (bytesOf s).length := by rw [bytesOf_length]; exact h
  rw [List.drop_eq_getElem_cons hl, ← rd_bytesOf, rd_nat _ _ hl]
theorem drop_end (s : ByteArray) (i : Nat) (h : s.size ≤ i) : (bytesOf s).drop i = [] := List.drop_eq_nil_of_le (by rw [bytesOf_length]; exact h)
theorem xor32_lt (a b : Nat) (ha : a < 4294967296) (hb : b < 4294967296) : a ^^^ b < 4294967296 := Nat.xor_lt_two_pow (n := 32) (by omega) (by omega)
end Go.Proofs.Ytbelaenekbflfaa.P
/- Keys and pairs that are right: the program's and the reference's answer what the model answers. No condition but bounds on lengths. -/
namespace Go.Proofs.Ytbelaenekbflfaa.P
open Go.RowKit Go.Proofs.YtbelaenekbflfaaW.PrintWords Go.Proofs.YtbelaenekbflfaaW.PrintLast Go.Proofs.YtbelaenekbflfaaW.PrintMore
set_option linter.unusedVariables false
set_option linter.unusedSimpArgs false
def okB (b : Int) : Bool := decide ((97 ≤ b ∧ b ≤ 122) ∨ (48 ≤ b ∧ b ≤ 57))
def wordM (l : List Int) : Bool := l.all okB
def keyOkM (s : ByteArray) : Bool := decide (1 ≤ s.size ∧ s.size ≤ 12) && wordM (bytesOf s)
def pairOkM (key val : ByteArray) : Bool := keyOkM key && decide (val.size ≤ 20)
theorem wordM_drop (s : ByteArray) (i : Nat) (h : i < s.size) : wordM ((bytesOf s).drop i) = (okB (bt s (i : Int)) && wordM ((bytesOf s).drop (i + 1))) := by
  rw [bt_drop s i h]
  rfl
theorem l1In_eq (a b c : Int) : spec_l1In.f a b c = some (decide (b ≤ a ∧ a ≤ c)) := by
  unfold spec_l1In.f
  by_cases h : a ≥ b
  · rw [if_pos h]
    congr 1
    exact decide_eq_decide.2 ⟨fun x => ⟨h, x⟩, fun x => x.2⟩
  · rw [if_neg h, decide_eq_false (by omega)]
theorem inRange_eq (a b c : Int) : impl_inRange.f a b c = some (decide (b ≤ a ∧ a ≤ c)) := by
  unfold impl_inRange.f
  by_cases h : a ≥ b
  · rw [if_pos h]
    congr 1
    exact decide_eq_decide.2 ⟨fun x => ⟨h, x⟩, fun x => x.2⟩
  · rw [if_neg h, decide_eq_false (by omega)]
theorem spec_KeyOk_loop (s : ByteArray) (hs : s.size ≤ 140737488355328) : ∀ d i : Nat, s.size - i = d → i ≤ s.size →
    Ev (fun k => spec_KeyOk.l0 k s (i : Int)) (decide (1 ≤ s.size ∧ s.size ≤ 12) && wordM ((bytesOf s).drop i)) := by
  intro d
  induction d with
  | zero =>
    intro i hd hi
    refine Ev.up (Ev.now _) (fun k _ => ?_)
    simp only [spec_KeyOk.l0]
    rw [if_neg (by omega), drop_end s i (by omega), l1In_eq, Option.bind_some]
    rw [show wordM [] = true from rfl, Bool.and_true]
    congr 1
    exact decide_eq_decide.2 (by omega)
  | succ d ih =>
    intro i hd hi
    have hb := bt_range s (i : Int)
    have hz := ih (i + 1) (by omega) (by omega)
    rw [wordM_drop s i (by omega)]
    by_cases c : okB (bt s (i : Int)) = true
    · rw [c, Bool.true_and]
      refine Ev.up hz (fun k hk => ?_)
      simp only [spec_KeyOk.l0]
      rw [if_pos (by omega), if_pos (by omega), w64 (x := bt s (i : Int)) (by omega) (by omega), l1In_eq, Option.bind_some, l1In_eq, Option.bind_some, w64 (by omega) (by omega)]
      unfold okB at c
      have c' := of_decide_eq_true c
      by_cases c1 : 97 ≤ bt s (i : Int) ∧ bt s (i : Int) ≤ 122
      · rw [if_pos (decide_eq_true c1)]; exact hk
      · rw [if_neg (by rw [decide_eq_false c1]; simp), if_pos (decide_eq_true (by omega))]; exact hk
    · have cf : okB (bt s (i : Int)) = false := by simpa using c
      rw [cf, Bool.false_and, Bool.and_false]
      refine Ev.up (Ev.now false) (fun k _ => ?_)
      simp only [spec_KeyOk.l0]
      unfold okB at c
      have c' : ¬ ((97 ≤ bt s (i : Int) ∧ bt s (i : Int) ≤ 122) ∨ (48 ≤ bt s (i : Int) ∧ bt s (i : Int) ≤ 57)) := fun h => c (decide_eq_true h)
      rw [if_pos (by omega), if_pos (by omega), w64 (x := bt s (i : Int)) (by omega) (by omega), l1In_eq, Option.bind_some, l1In_eq, Option.bind_some, decide_eq_false (by omega), if_neg (by simp), decide_eq_false (by omega), if_neg (by simp)]
theorem spec_KeyOk_ev (s : ByteArray) (hs : s.size ≤ 140737488355328) : Ev (fun k => spec_KeyOk.f k s) (keyOkM s) :=
  (spec_KeyOk_loop s hs _ 0 rfl (by omega)).congr (fun k => rfl)
theorem isKeyByte_eq (b : Int) : impl_isKeyByte.f b = some (okB b) := by
  unfold impl_isKeyByte.f okB
  by_cases h1 : b ≥ 97
  · rw [if_pos h1]
    by_cases h2 : b ≤ 122
    · rw [if_pos h2, decide_eq_true (by omega)]
    · rw [if_neg h2, if_pos (by omega), decide_eq_false (by omega), decide_eq_false (by omega)]
  · rw [if_neg h1]
    by_cases h2 : b ≥ 48
    · rw [if_pos h2]
      congr 1
      exact decide_eq_decide.2 (by omega)
    · rw [if_neg h2, decide_eq_false (by omega)]
theorem impl_isWord_loop (s : ByteArray) (hs : s.size ≤ 140737488355328) : ∀ d i : Nat, s.size - i = d → i ≤ s.size →
    Ev (fun k => impl_isWord.l0 k s (i : Int)) (wordM ((bytesOf s).drop i)) := by
  intro d
  induction d with
  | zero =>
    intro i hd hi
    refine Ev.up (Ev.now _) (fun k _ => ?_)
    simp only [impl_isWord.l0]
    rw [if_neg (by omega), drop_end s i (by omega)]
    rfl
  | succ d ih =>
    intro i hd hi
    have hz := ih (i + 1) (by omega) (by omega)
    rw [wordM_drop s i (by omega)]
    by_cases c : okB (bt s (i : Int)) = true
    · rw [c, Bool.true_and]
      refine Ev.up hz (fun k hk => ?_)
      simp only [impl_isWord.l0]
      rw [if_pos (by omega), if_pos (by omega), isKeyByte_eq, Option.bind_some, if_pos c, w64 (by omega) (by omega)]
      exact hk
    · have cf : okB (bt s (i : Int)) = false := by simpa using c
      rw [cf, Bool.false_and]
      refine Ev.up (Ev.now false) (fun k _ => ?_)
      simp only [impl_isWord.l0]
      rw [if_pos (by omega), if_pos (by omega), isKeyByte_eq, Option.bind_some, if_neg c]
theorem impl_KeyOk_ev (s : ByteArray) (hs : s.size ≤ 140737488355328) : Ev (fun k => impl_KeyOk.f k s) (keyOkM s) := by
  obtain ⟨K, hK⟩ := Ev.get (impl_isWord_loop s hs _ 0 rfl (by omega))
  refine ⟨K, fun k hk => ?_⟩
  show impl_KeyOk.f k s = _
  unfold impl_KeyOk.f impl_isWord.f keyOkM
  have h := hK k hk
  rw [inRange_eq, Option.bind_some]
  by_cases c : 1 ≤ s.size ∧ s.size ≤ 12
  · rw [if_pos (decide_eq_true (by omega)), show (0 : Int) = ((0 : Nat) : Int) from rfl, h, Option.bind_some, decide_eq_true c, Bool.true_and]
    rfl
  · rw [decide_eq_false (by omega), if_neg (by simp), decide_eq_false c, Bool.false_and]
theorem spec_PairOk_ev (a b : ByteArray) (hs : a.size ≤ 140737488355328) : Ev (fun k => spec_PairOk.f k a b) (pairOkM a b) := by
  obtain ⟨K, hK⟩ := Ev.get (spec_KeyOk_ev a hs)
  refine ⟨K, fun k hk => ?_⟩
  show spec_PairOk.f k a b = _
  unfold spec_PairOk.f pairOkM
  rw [hK k hk, Option.bind_some]
  by_cases c : keyOkM a = true
  · rw [if_pos c, c, Bool.true_and]
    congr 1
    exact decide_eq_decide.2 (by omega)
  · rw [if_neg c, Bool.eq_false_iff.2 c, Bool.false_and]
theorem impl_PairOk_ev (a b : ByteArray) (hs : a.size ≤ 140737488355328) : Ev (fun k => impl_PairOk.f k a b) (pairOkM a b) := by
  obtain ⟨K, hK⟩ := Ev.get (impl_KeyOk_ev a hs)
  refine ⟨K, fun k hk => ?_⟩
  show impl_PairOk.f k a b = _
  unfold impl_PairOk.f pairOkM
  rw [hK k hk, Option.bind_some]
  by_cases c : keyOkM a = true
  · rw [if_pos c, c, Bool.true_and]
    congr 1
    exact decide_eq_decide.2 (by omega)
  · rw [if_neg c, Bool.eq_false_iff.2 c, Bool.false_and]
end Go.Proofs.Ytbelaenekbflfaa.P
/- Rows of pairs and of orders: whether they keep the rules, the program's answer and the reference's. No condition but bounds on lengths. -/
namespace Go.Proofs.Ytbelaenekbflfaa.P
open Go.RowKit Go.Proofs.YtbelaenekbflfaaW.PrintWords Go.Proofs.YtbelaenekbflfaaW.PrintLast Go.Proofs.YtbelaenekbflfaaW.PrintMore
set_option linter.unusedVariables false
set_option linter.unusedSimpArgs false
/-- Whether the pairs from a place on keep the rules: pairs left, place. -/
def pokM (l : List S39) : Nat → Nat → Bool
  | 0, _ => decide ((l.length : Int) ≤ 60)
  | d + 1, i =>
    if pairOkM (rd_T39 l i).f0 (rd_T39 l i).f1 = true then
      if (i : Int) > 0 then
        if Op.bytesLess (rd_T39 l ((i : Int) - 1)).f0.toList (rd_T39 l i).f0.toList = true then pokM l d (i + 1) else false
      else pokM l d (i + 1)
    else false
theorem spec_PairsOk_loop (l : List S39) (hn : l.length ≤ 1000000000000) (hs : ∀ p ∈ l, p.f0.size ≤ 140737488355328) : ∀ d i : Nat, l.length - i = d → i ≤ l.length →
    Ev (fun k => spec_PairsOk.l0 k l (i : Int)) (pokM l d i) := by
  intro d
  induction d with
  | zero =>
    intro i hd hi
    refine Ev.up (Ev.now _) (fun k _ => ?_)
    simp only [spec_PairsOk.l0]
    rw [if_neg (by omega)]
    rfl
  | succ d ih =>
    intro i hd hi
    have hil : i < l.length := by omega
    have hsz : (rd_T39 l (i : Int)).f0.size ≤ 140737488355328 := by rw [rd_39_nat l i hil]; exact hs _ (List.getElem_mem hil)
    obtain ⟨K1, e1⟩ := Ev.get (spec_PairOk_ev (rd_T39 l (i : Int)).f0 (rd_T39 l (i : Int)).f1 hsz)
    obtain ⟨K2, e2⟩ := Ev.get (ih (i + 1) (by omega) (by omega))
    refine ⟨K1 + K2 + 1, fun k hk => ?_⟩
    obtain ⟨k, rfl⟩ : ∃ j, k = j + 1 := ⟨k - 1, by omega⟩
    have hx := e2 k (by omega)
    show spec_PairsOk.l0 (k + 1) _ _ = _
    simp only [spec_PairsOk.l0]
    rw [if_pos (by omega), if_pos (by omega), e1 _ (by omega), Option.bind_some, pokM]
    by_cases c : pairOkM (rd_T39 l (i : Int)).f0 (rd_T39 l (i : Int)).f1 = true
    · rw [if_pos c, if_pos c]
      by_cases c2 : (i : Int) > 0
      · rw [if_pos c2, if_pos c2, w64 (by omega) (by omega), w64 (by omega) (by omega), if_pos (by omega), if_pos (by omega)]
        by_cases c3 : Op.bytesLess (rd_T39 l ((i : Int) - 1)).f0.toList (rd_T39 l i).f0.toList = true
        · rw [if_pos c3, if_pos c3]; exact hx
        · rw [if_neg c3, if_neg c3]
      · rw [if_neg c2, if_neg c2, w64 (by omega) (by omega)]; exact hx
    · rw [if_neg c, if_neg c]
theorem spec_PairsOk_ev (l : List S39) (hn : l.length ≤ 1000000000000) (hs : ∀ p ∈ l, p.f0.size ≤ 140737488355328) : Ev (fun k => spec_PairsOk.f k l) (pokM l l.length 0) :=
  spec_PairsOk_loop l hn hs _ 0 rfl (by omega)
theorem impl_PairsOk_loop (l : List S39) (hn : l.length ≤ 1000000000000) (hs : ∀ p ∈ l, p.f0.size ≤ 140737488355328) : ∀ d i : Nat, l.length - i = d → i ≤ l.length →
    Ev (fun k => impl_PairsOk.l0 k l l (l.length : Int) (i : Int)) (pokM l d i) := by
  intro d
  induction d with
  | zero =>
    intro i hd hi
    refine Ev.up (Ev.now _) (fun k _ => ?_)
    simp only [impl_PairsOk.l0]
    rw [if_neg (by omega)]
    rfl
  | succ d ih =>
    intro i hd hi
    have hil : i < l.length := by omega
    have hsz : (rd_T39 l (i : Int)).f0.size ≤ 140737488355328 := by rw [rd_39_nat l i hil]; exact hs _ (List.getElem_mem hil)
    obtain ⟨K1, e1⟩ := Ev.get (impl_PairOk_ev (rd_T39 l (i : Int)).f0 (rd_T39 l (i : Int)).f1 hsz)
    obtain ⟨K2, e2⟩ := Ev.get (ih (i + 1) (by omega) (by omega))
    refine ⟨K1 + K2 + 1, fun k hk => ?_⟩
    obtain ⟨k, rfl⟩ : ∃ j, k = j + 1 := ⟨k - 1, by omega⟩
    have hx := e2 k (by omega)
    show impl_PairsOk.l0 (k + 1) _ _ _ _ = _
    simp only [impl_PairsOk.l0]
    rw [if_pos (by omega), if_pos (by omega), if_pos (by omega), e1 _ (by omega), Option.bind_some, pokM]
    by_cases c : pairOkM (rd_T39 l (i : Int)).f0 (rd_T39 l (i : Int)).f1 = true
    · rw [if_pos c, if_pos c]
      by_cases c2 : (i : Int) > 0
      · rw [if_pos c2, if_pos c2, w64 (by omega) (by omega), w64 (by omega) (by omega), if_pos (by omega), if_pos (by omega)]
        by_cases c3 : Op.bytesLess (rd_T39 l ((i : Int) - 1)).f0.toList (rd_T39 l i).f0.toList = true
        · rw [if_pos c3, if_pos c3]; exact hx
        · rw [if_neg c3, if_neg c3]
      · rw [if_neg c2, if_neg c2, w64 (by omega) (by omega)]; exact hx
    · rw [if_neg c, if_neg c]
theorem impl_PairsOk_ev (l : List S39) (hn : l.length ≤ 1000000000000) (hs : ∀ p ∈ l, p.f0.size ≤ 140737488355328) : Ev (fun k => impl_PairsOk.f k l) (pokM l l.length 0) :=
  impl_PairsOk_loop l hn hs _ 0 rfl (by omega)
end Go.Proofs.Ytbelaenekbflfaa.P
/- Numbers and texts as bytes: what the program's and the reference's writers and readers compute. No condition but bounds on lengths. -/
namespace Go.Proofs.Ytbelaenekbflfaa.P
open Go.RowKit Go.Proofs.YtbelaenekbflfaaW.PrintWords Go.Proofs.YtbelaenekbflfaaW.PrintLast Go.Proofs.YtbelaenekbflfaaW.PrintMore
set_option linter.unusedVariables false
set_option linter.unusedSimpArgs false
/-! ### the model -/
/-- A number's bytes. -/
def encN (n : Nat) : List Int := if n > 127 then ((n % 128 + 128 : Nat) : Int) :: encN (n / 128) else [(n : Int)]
termination_by n
decreasing_by omega
theorem encN_big {n : Nat} (h : 127 < n) : encN n = ((n % 128 + 128 : Nat) : Int) :: encN (n / 128) := by
  rw [encN, if_pos h]
theorem encN_small {n : Nat} (h : n ≤ 127) : encN n = [(n : Int)] := by
  rw [encN, if_neg (by omega)]
theorem encN_by (n : Nat) : By (encN n) := by
  induction n using Nat.strongRecOn with
  | _ n ih =>
    by_cases h : 127 < n
    · rw [encN_big h]
      exact By.app (a := [_]) (By.one (by omega) (by omega)) (ih (n / 128) (by omega))
    · rw [encN_small (by omega)]
      exact By.one (by omega) (by omega)
theorem encN_pos (n : Nat) : 0 < (encN n).length := by
  by_cases h : 127 < n
  · rw [encN_big h]; simp
  · rw [encN_small (by omega)]; simp
theorem encN_len5 (n : Nat) (h : n ≤ 1000000000) : (encN n).length ≤ 5 := by
  by_cases h1 : 127 < n
  · rw [encN_big h1]
    by_cases h2 : 127 < n / 128
    · rw [encN_big h2]
      by_cases h3 : 127 < n / 128 / 128
      · rw [encN_big h3]
        by_cases h4 : 127 < n / 128 / 128 / 128
        · rw [encN_big h4]
          rw [encN_small (by omega)]
          simp
        · rw [encN_small (by omega)]; simp
      · rw [encN_small (by omega)]; simp
    · rw [encN_small (by omega)]; simp
  · rw [encN_small (by omega)]; simp
/-- The nearest number that is kept. -/
def clampN (n : Int) : Nat := if n > 1000000000 then 1000000000 else if n < 0 then 0 else n.toNat
theorem clampN_le (n : Int) : clampN n ≤ 1000000000 := by unfold clampN; (repeat' split) <;> omega
def putNumM (b : List Int) (n : Int) : List Int := b ++ encN (clampN n)
def putTextM (b : List Int) (s : ByteArray) : List Int := putNumM b s.size ++ bytesOf s
theorem putNumM_by {b : List Int} (h : By b) (n : Int) : By (putNumM b n) := By.app h (encN_by _)
theorem putTextM_by {b : List Int} (h : By b) (s : ByteArray) : By (putTextM b s) := By.app (putNumM_by h _) (By.bytesOf s)
theorem putNumM_len (b : List Int) (n : Int) : (putNumM b n).length ≤ b.length + 5 := by
  have := encN_len5 _ (clampN_le n)
  simp [putNumM]
  omega
theorem putTextM_len (b : List Int) (s : ByteArray) : (putTextM b s).length ≤ b.length + 5 + s.size := by
  have := putNumM_len b s.size
  simp [putTextM, bytesOf_length]
  omega
/-- What a number's reader answers: rounds left, place, number so far, groups so far. -/
def gnM (b : List Int) : Nat → Nat → Int → Nat → Int × Int × Bool
  | 0, _, _, _ => (0, 0, false)
  | f + 1, p, n, i =>
    if p < b.length then
      if rd b (p : Int) < 128 then
        if (rd b (p : Int) = 0 ∧ 0 < i) ∨ n + rd b (p : Int) % 128 * 128 ^ i > 1000000000 then (0, 0, false)
        else (n + rd b (p : Int) % 128 * 128 ^ i, (p : Int) + 1, true)
      else gnM b f (p + 1) (n + rd b (p : Int) % 128 * 128 ^ i) (i + 1)
    else (0, 0, false)
def getNumM (b : List Int) (at_ : Int) : Int × Int × Bool := if 0 ≤ at_ then gnM b 5 at_.toNat 0 0 else (0, 0, false)
def getTextM (b : List Int) (at_ : Int) : ByteArray × Int × Bool :=
  if (getNumM b at_).2.2 = true then
    if (getNumM b at_).1 > b.length - (getNumM b at_).2.1 then (⟨#[]⟩, 0, false)
    else (strOfNums ((b.take ((getNumM b at_).2.1 + (getNumM b at_).1).toNat).drop ((getNumM b at_).2.1).toNat), (getNumM b at_).2.1 + (getNumM b at_).1, true)
  else (⟨#[]⟩, 0, false)
theorem pow128 (i : Nat) (hi : i < 5) : (128 : Int) ^ i ≤ 268435456 ∧ 0 < (128 : Int) ^ i := by
  rcases (by omega : i = 0 ∨ i = 1 ∨ i = 2 ∨ i = 3 ∨ i = 4) with rfl | rfl | rfl | rfl | rfl <;> decide
/-- What is read is a number that is kept, behind its place. -/
theorem gnM_ok {b : List Int} (hb : By b) : ∀ (f p : Nat) (n : Int) (i : Nat), f + i = 5 → 0 ≤ n → n < 128 ^ i → (gnM b f p n i).2.2 = true →
    0 ≤ (gnM b f p n i).1 ∧ (gnM b f p n i).1 ≤ 1000000000 ∧ (p : Int) < (gnM b f p n i).2.1 ∧ (gnM b f p n i).2.1 ≤ b.length := by
  intro f
  induction f with
  | zero => intro p n i _ _ _ h; simp [gnM] at h
  | succ f ih =>
    intro p n i hf h0 h1 h
    have hr := hb.rd (p : Int)
    obtain ⟨hp1, hp2⟩ := pow128 i (by omega)
    unfold gnM at h ⊢
    by_cases c1 : p < b.length
    · rw [if_pos c1] at h ⊢
      by_cases c2 : rd b (p : Int) < 128
      · rw [if_pos c2] at h ⊢
        by_cases c3 : (rd b (p : Int) = 0 ∧ 0 < i) ∨ n + rd b (p : Int) % 128 * 128 ^ i > 1000000000
        · rw [if_pos c3] at h; simp at h
        · rw [if_neg c3]
          have hm : 0 ≤ rd b (p : Int) % 128 * 128 ^ i := Int.mul_nonneg (by omega) (by omega)
          refine ⟨?_, ?_, ?_, ?_⟩ <;> simp only <;> first | omega | (have := not_or.1 c3; omega)
      · rw [if_neg c2] at h ⊢
        have hm : 0 ≤ rd b (p : Int) % 128 * 128 ^ i := Int.mul_nonneg (by omega) (by omega)
        have hm2 : n + rd b (p : Int) % 128 * 128 ^ i < 128 ^ (i + 1) := by
          have h3 : rd b (p : Int) % 128 * 128 ^ i ≤ 127 * 128 ^ i := Int.mul_le_mul_of_nonneg_right (by omega) (by omega)
          rw [Int.pow_succ]
          omega
        have := ih (p + 1) _ (i + 1) (by omega) (by omega) hm2 h
        refine ⟨this.1, this.2.1, ?_, this.2.2.2⟩
        have := this.2.2.1
        omega
    · rw [if_neg c1] at h; simp at h
theorem getNumM_ok {b : List Int} (hb : By b) {a : Int} (h : (getNumM b a).2.2 = true) :
    0 ≤ (getNumM b a).1 ∧ (getNumM b a).1 ≤ 1000000000 ∧ 0 ≤ a ∧ a < (getNumM b a).2.1 ∧ (getNumM b a).2.1 ≤ b.length := by
  unfold getNumM at h ⊢
  by_cases c : 0 ≤ a
  · rw [if_pos c] at h ⊢
    have := gnM_ok hb 5 a.toNat 0 0 rfl (by omega) (by decide) h
    refine ⟨this.1, this.2.1, c, ?_, this.2.2.2⟩
    have := this.2.2.1
    omega
  · rw [if_neg c] at h; simp at h
theorem gnM_no (b : List Int) : ∀ (f p : Nat) (n : Int) (i : Nat), (gnM b f p n i).2.2 = false → gnM b f p n i = (0, 0, false) := by
  intro f
  induction f with
  | zero => intro p n i _; rfl
  | succ f ih =>
    intro p n i h
    unfold gnM at h ⊢
    split at h
    · split at h
      · split at h
        · rw [if_pos (by assumption), if_pos (by assumption), if_pos (by assumption)]
        · simp at h
      · rw [if_pos (by assumption), if_neg (by assumption)]
        exact ih _ _ _ h
    · rw [if_neg (by assumption)]
theorem getNumM_no {b : List Int} {a : Int} (h : (getNumM b a).2.2 = false) : getNumM b a = (0, 0, false) := by
  unfold getNumM at h ⊢
  split at h
  · rw [if_pos (by assumption)]; exact gnM_no _ _ _ _ _ h
  · rw [if_neg (by assumption)]
/-- What was written is read. -/
theorem gnM_enc (b : List Int) : ∀ (f p m : Nat) (n : Int) (i : Nat) (post : List Int), f + i = 5 → 0 ≤ n → n + (m : Int) * 128 ^ i ≤ 1000000000 → (m = 0 → i = 0) → b.drop p = encN m ++ post →
    gnM b f p n i = (n + m * 128 ^ i, (p : Int) + (encN m).length, true) := by
  intro f
  induction f with
  | zero =>
    intro p m n i post hf h0 h1 h2 h3
    obtain rfl : i = 5 := by omega
    exfalso
    have : m = 0 := by
      rcases Nat.eq_zero_or_pos m with h | h
      · exact h
      · exfalso
        have : (1 : Int) * 128 ^ 5 ≤ (m : Int) * 128 ^ 5 := Int.mul_le_mul_of_nonneg_right (by omega) (by decide)
        have : (128 : Int) ^ 5 = 34359738368 := by decide
        omega
    exact absurd (h2 this) (by omega)
  | succ f ih =>
    intro p m n i post hf h0 h1 h2 h3
    obtain ⟨hp1, hp2⟩ := pow128 i (by omega)
    have hlen : p < b.length := by
      have := congrArg List.length h3
      rw [List.length_drop, List.length_append] at this
      have := encN_pos m
      omega
    have hrd : ∀ (x : Int) (t : List Int), encN m ++ post = x :: t → rd b (p : Int) = x := by
      intro x t e
      rw [rd_nat b p hlen]
      have := h3.trans e
      rw [List.drop_eq_getElem_cons hlen] at this
      injection this
    unfold gnM
    rw [if_pos hlen]
    by_cases c : 127 < m
    · have e := encN_big c
      have hr := hrd _ _ (by rw [e]; rfl)
      have hm : ((m % 128 + 128 : Nat) : Int) % 128 = ((m % 128 : Nat) : Int) := by omega
      rw [hr, if_neg (by omega), hm]
      have hq : ((m % 128 : Nat) : Int) * 128 ^ i + ((m / 128 : Nat) : Int) * 128 ^ (i + 1) = (m : Int) * 128 ^ i := by
        rw [Int.pow_succ, Int.mul_comm ((128 : Int) ^ i) 128, ← Int.mul_assoc, ← Int.add_mul]
        congr 1
        omega
      rw [ih (p + 1) (m / 128) (n + ((m % 128 : Nat) : Int) * 128 ^ i) (i + 1) post (by omega) (by have : 0 ≤ ((m % 128 : Nat) : Int) * 128 ^ i := Int.mul_nonneg (by omega) (by omega); omega) (by omega) (by omega) (by
        have := congrArg (List.drop 1) h3
        rw [List.drop_drop, e, List.cons_append, List.drop_succ_cons, List.drop_zero] at this
        exact this)]
      rw [e, List.length_cons]
      refine Prod.ext ?_ (Prod.ext ?_ rfl) <;> simp only <;> omega
    · have e := encN_small (n := m) (by omega)
      have hr := hrd _ _ (by rw [e]; rfl)
      have hm : (m : Int) % 128 = m := by omega
      rw [hr, if_pos (by omega), hm, if_neg (by
        rintro (⟨h4, h5⟩ | h4)
        · have := h2 (by omega); omega
        · omega), e]
      rfl
theorem getNumM_put (pre post : List Int) (m : Nat) (h : m ≤ 1000000000) : getNumM (pre ++ encN m ++ post) (pre.length : Int) = ((m : Int), ((pre ++ encN m).length : Int), true) := by
  unfold getNumM
  rw [if_pos (by omega), Int.toNat_natCast, gnM_enc (pre ++ encN m ++ post) 5 pre.length m 0 0 post rfl (by omega) (by simp; omega) (fun _ => rfl) (by simp)]
  simp
/-! ### the program's functions, and the reference's -/
theorem or_enc (x : Nat) : (Go.bits .or .i64 128 (Go.bits .and .i64 (x : Int) 127)) % 256 = ((x % 128 + 128 : Nat) : Int) := by
  rw [i64_and127]
  have e : ((x : Int) % 128) = ((x % 128 : Nat) : Int) := by omega
  rw [e]
  have := i64_or_nat 128 (x % 128) (by omega) (by omega)
  rw [show (128 : Int) = ((128 : Nat) : Int) from rfl, this, nat_join 7 128 (x % 128) (by decide) (by omega)]
  omega
theorem or_enc' (x : Nat) : (Go.bits .or .i64 (Go.bits .and .i64 (x : Int) 127) 128) % 256 = ((x % 128 + 128 : Nat) : Int) := by
  rw [i64_and127]
  have e : ((x : Int) % 128) = ((x % 128 : Nat) : Int) := by omega
  rw [e]
  have := i64_or_nat (x % 128) 128 (by omega) (by omega)
  rw [show (128 : Int) = ((128 : Nat) : Int) from rfl, this, Nat.or_comm, nat_join 7 128 (x % 128) (by decide) (by omega)]
  omega
theorem impl_putNum_loop (n : Nat) : ∀ b : List Int, b.length + n < 140737488355328 → Ev (fun k => impl_putNum.l0 k b (n : Int)) (b ++ encN n) := by
  induction n using Nat.strongRecOn with
  | _ n ih =>
    intro b hb
    by_cases h : 127 < n
    · refine Ev.up ((ih (n / 128) (by omega) (b ++ [((n % 128 + 128 : Nat) : Int)]) (by simp; omega)).cast (by rw [encN_big h, List.append_assoc]; rfl)) (fun k hk => ?_)
      simp only [impl_putNum.l0]
      rw [if_pos (by omega), if_pos (by omega), or_enc, show (n : Int) / 128 = ((n / 128 : Nat) : Int) from rfl]
      exact hk
    · refine Ev.up (Ev.now (b ++ encN n)) (fun k _ => ?_)
      simp only [impl_putNum.l0]
      rw [if_neg (by omega), if_pos (by omega), encN_small (by omega), show (n : Int) % 256 = n by omega]
theorem impl_putNum_ev (b : List Int) (n : Int) (hb : b.length ≤ 100000000000000) : Ev (fun k => impl_putNum.f k b n) (putNumM b n) := by
  have h := impl_putNum_loop (clampN n) b (by have := clampN_le n; omega)
  have e : mx 0 (mn n 1000000000) = (clampN n : Int) := by
    unfold mx mn clampN
    repeat' split
    all_goals omega
  refine h.congr (fun k => ?_)
  unfold impl_putNum.f
  rw [e]
theorem impl_putText_ev (b : List Int) (s : ByteArray) (hb : b.length ≤ 100000000000000) (hs : s.size ≤ 10000000000000) : Ev (fun k => impl_putText.f k b s) (putTextM b s) := by
  obtain ⟨K, hK⟩ := Ev.get (impl_putNum_ev b s.size hb)
  refine ⟨K, fun k hk => ?_⟩
  show impl_putText.f k b s = _
  unfold impl_putText.f
  have hl := putNumM_len b s.size
  rw [hK k hk, Option.bind_some, if_pos (by omega)]
  rfl
theorem spec_PutNum_loop (n : Nat) : ∀ b : List Int, b.length + n < 140737488355328 → Ev (fun k => spec_PutNum.l0 k (n : Int) b) (b ++ encN n) := by
  induction n using Nat.strongRecOn with
  | _ n ih =>
    intro b hb
    by_cases h : 127 < n
    · refine Ev.up ((ih (n / 128) (by omega) (b ++ [((n % 128 + 128 : Nat) : Int)]) (by simp; omega)).cast (by rw [encN_big h, List.append_assoc]; rfl)) (fun k hk => ?_)
      simp only [spec_PutNum.l0]
      rw [if_pos (by omega), if_pos (by omega), or_enc', show (n : Int) / 128 = ((n / 128 : Nat) : Int) from rfl]
      exact hk
    · refine Ev.up (Ev.now (b ++ encN n)) (fun k _ => ?_)
      simp only [spec_PutNum.l0]
      rw [if_neg (by omega), if_pos (by omega), encN_small (by omega), show (n : Int) % 256 = n by omega]
theorem spec_PutNum_ev (b : List Int) (n : Int) (hb : b.length ≤ 100000000000000) : Ev (fun k => spec_PutNum.f k b n) (putNumM b n) := by
  have h := spec_PutNum_loop (clampN n) b (by have := clampN_le n; omega)
  have h1 : Ev (fun k => spec_PutNum.j1 k (clampN n : Int) b) (putNumM b n) := Ev.up h (fun k hk => by simp only [spec_PutNum.j1]; exact hk)
  have h0 : Ev (fun k => if n > 1000000000 then spec_PutNum.j0 k 1000000000 b else spec_PutNum.j0 k n b) (putNumM b n) := by
    by_cases c : n > 1000000000
    · have e : (clampN n : Int) = 1000000000 := by unfold clampN; rw [if_pos c]; rfl
      rw [e] at h1
      refine (Ev.up (g := fun k => spec_PutNum.j0 k 1000000000 b) h1 (fun k hk => ?_)).congr (fun k => by rw [if_pos c])
      simp only [spec_PutNum.j0]
      rw [if_neg (by omega)]
      exact hk
    · refine (Ev.up (g := fun k => spec_PutNum.j0 k n b) h1 (fun k hk => ?_)).congr (fun k => by rw [if_neg c])
      simp only [spec_PutNum.j0]
      by_cases c2 : n < 0
      · have e : (clampN n : Int) = 0 := by unfold clampN; rw [if_neg c, if_pos c2]; rfl
        rw [e] at hk
        rw [if_pos c2]
        exact hk
      · have e : (clampN n : Int) = n := by unfold clampN; rw [if_neg c, if_neg c2]; omega
        rw [e] at hk
        rw [if_neg c2]
        exact hk
  refine h0.congr (fun k => ?_)
  unfold spec_PutNum.f
  simp only [Option.bind_some, List.nil_append, List.length_nil]
  rw [if_pos (by omega)]
theorem spec_PutText_ev (b : List Int) (s : ByteArray) (hb : b.length ≤ 100000000000000) (hs : s.size ≤ 10000000000000) : Ev (fun k => spec_PutText.f k b s) (putTextM b s) := by
  obtain ⟨K, hK⟩ := Ev.get (spec_PutNum_ev b s.size hb)
  refine ⟨K, fun k hk => ?_⟩
  show spec_PutText.f k b s = _
  unfold spec_PutText.f
  have hl := putNumM_len b s.size
  rw [hK k hk, Option.bind_some, if_pos (by omega)]
  rfl
end Go.Proofs.Ytbelaenekbflfaa.P
/- What is hashed of bytes, with what is laid behind them: the program's and the reference's answer what the model answers. No condition but bounds on lengths. -/
namespace Go.Proofs.Ytbelaenekbflfaa.P
open Go.RowKit Go.Proofs.YtbelaenekbflfaaW.PrintWords Go.Proofs.YtbelaenekbflfaaW.PrintLast Go.Proofs.YtbelaenekbflfaaW.PrintMore
set_option linter.unusedVariables false
set_option linter.unusedSimpArgs false
/-- The bytes of a number, i of them, the greatest first. -/
def lenM (n : Int) : Nat → List Int
  | 0 => []
  | i + 1 => (n / 2 ^ (8 * i)) % 256 :: lenM n i
/-- How many zeros are laid behind n bytes and one. -/
def zerosM (n : Nat) : Nat := (119 - n % 64) % 64
def padM (l : List Int) : List Int := l ++ [128] ++ List.replicate (zerosM l.length) 0 ++ lenM (8 * (l.length : Int)) 8
theorem lenM_length (n : Int) (i : Nat) : (lenM n i).length = i := by
  induction i with
  | zero => rfl
  | succ i ih => simp [lenM, ih]
theorem lenM_by (n : Int) (i : Nat) : By (lenM n i) := by
  induction i with
  | zero => exact By.nil
  | succ i ih => exact By.app (a := [_]) (By.one (by omega) (by omega)) ih
theorem padM_by {l : List Int} (h : By l) : By (padM l) := by
  refine By.app (By.app (By.app h (By.one (by omega) (by omega))) (fun x hx => ?_)) (lenM_by _ _)
  rw [List.eq_of_mem_replicate hx]
  omega
theorem padM_length (l : List Int) : (padM l).length = l.length + 1 + zerosM l.length + 8 := by
  simp [padM, lenM_length]
  omega
theorem padM_mod (l : List Int) : (padM l).length % 64 = 0 := by
  rw [padM_length]
  unfold zerosM
  omega
theorem padM_len_le (l : List Int) : (padM l).length ≤ l.length + 72 := by
  rw [padM_length]
  unfold zerosM
  omega
theorem replicate_snoc {α : Type} (j : Nat) (x : α) : List.replicate j x ++ [x] = List.replicate (j + 1) x := by
  rw [List.replicate_succ', ]
theorem spec_Padded_l1 (n : Int) : ∀ (i : Nat) (x : List Int), i ≤ 8 → x.length + i ≤ 100000000000000 → Ev (fun k => spec_Padded.l1 k x n (8 * (i : Int) - 8)) (x ++ lenM n i) := by
  intro i
  induction i with
  | zero =>
    intro x hi hx
    refine Ev.up (Ev.now _) (fun k _ => ?_)
    simp only [spec_Padded.l1]
    rw [if_neg (by omega), lenM, List.append_nil]
  | succ i ih =>
    intro x hi hx
    have hs : (shr .i64 n (IntKind.u64.wrap (8 * ((i + 1 : Nat) : Int) - 8))) = n / 2 ^ (8 * i) := by
      rw [IntKind.wrap_u64, show (8 * ((i + 1 : Nat) : Int) - 8) % 18446744073709551616 = ((8 * i : Nat) : Int) by omega]
      unfold shr
      rw [Int.toNat_natCast, Nat.min_eq_left (by simp only [IntKind.bits]; omega)]
    refine Ev.up ((ih (x ++ [(n / 2 ^ (8 * i)) % 256]) (by omega) (by simp; omega)).cast (q := x ++ lenM n (i + 1)) (by rw [lenM, List.append_assoc]; rfl)) (fun k hk => ?_)
    simp only [spec_Padded.l1]
    have hu : 0 ≤ IntKind.u64.wrap (8 * ((i + 1 : Nat) : Int) - 8) := by rw [IntKind.wrap_u64]; exact Int.emod_nonneg _ (by decide)
    rw [if_pos (by omega), if_pos hu, if_pos (by omega), hs, w64 (by omega) (by omega)]
    rw [show (8 * ((i + 1 : Nat) : Int) - 8 - 8) = 8 * (i : Int) - 8 by omega]
    exact hk
theorem spec_Padded_l0 (l : List Int) (hl : l.length ≤ 10000000000000) : ∀ d j : Nat, zerosM l.length - j = d → j ≤ zerosM l.length →
    Ev (fun k => spec_Padded.l0 k l (l ++ [128] ++ List.replicate j 0)) (padM l) := by
  intro d
  induction d with
  | zero =>
    intro j hd hj
    obtain rfl : j = zerosM l.length := by omega
    refine Ev.up ((spec_Padded_l1 (8 * (l.length : Int)) 8 (l ++ [128] ++ List.replicate (zerosM l.length) 0) (by omega) (by simp; unfold zerosM; omega)).cast (q := padM l) rfl) (fun k hk => ?_)
    simp only [spec_Padded.l0]
    rw [if_pos (by simp; unfold zerosM; omega), w64 (by omega) (by omega), Int.mul_comm (l.length : Int) 8]
    exact hk
  | succ d ih =>
    intro j hd hj
    refine Ev.up (ih (j + 1) (by omega) (by omega)) (fun k hk => ?_)
    simp only [spec_Padded.l0]
    rw [if_neg (by simp; unfold zerosM at hj hd; omega), if_pos (by simp; unfold zerosM at hj; omega), List.append_assoc, replicate_snoc]
    exact hk
theorem spec_Padded_ev (l : List Int) (hl : l.length ≤ 10000000000000) : Ev (fun k => spec_Padded.f k l) (padM l) := by
  refine (spec_Padded_l0 l hl _ 0 rfl (by omega)).congr (fun k => ?_)
  unfold spec_Padded.f
  simp only [Option.bind_some, List.nil_append, List.length_nil]
  rw [if_pos (by omega), if_pos (by omega)]
  simp
theorem impl_Padded_l1 (n : Int) : ∀ (i : Nat) (x : List Int), i ≤ 8 → x.length + i ≤ 100000000000000 → Ev (fun k => impl_Padded.l1 k x n ((i : Int) - 1)) (x ++ lenM n i) := by
  intro i
  induction i with
  | zero =>
    intro x hi hx
    refine Ev.up (Ev.now _) (fun k _ => ?_)
    simp only [impl_Padded.l1]
    rw [if_neg (by omega), lenM, List.append_nil]
  | succ i ih =>
    intro x hi hx
    have hs : (shr .i64 n (IntKind.u64.wrap (wrap64 (8 * (((i + 1 : Nat) : Int) - 1))))) = n / 2 ^ (8 * i) := by
      rw [w64 (by omega) (by omega), IntKind.wrap_u64, show (8 * (((i + 1 : Nat) : Int) - 1)) % 18446744073709551616 = ((8 * i : Nat) : Int) by omega]
      unfold shr
      rw [Int.toNat_natCast, Nat.min_eq_left (by simp only [IntKind.bits]; omega)]
    refine Ev.up ((ih (x ++ [(n / 2 ^ (8 * i)) % 256]) (by omega) (by simp; omega)).cast (q := x ++ lenM n (i + 1)) (by rw [lenM, List.append_assoc]; rfl)) (fun k hk => ?_)
    simp only [impl_Padded.l1]
    have hu : 0 ≤ IntKind.u64.wrap (wrap64 (8 * (((i + 1 : Nat) : Int) - 1))) := by rw [IntKind.wrap_u64]; exact Int.emod_nonneg _ (by decide)
    rw [if_pos (by omega), if_pos hu, if_pos (by omega), hs, w64 (by omega) (by omega)]
    rw [show (((i + 1 : Nat) : Int) - 1 - 1) = (i : Int) - 1 by omega]
    exact hk
theorem impl_Padded_l0 (l : List Int) (hl : l.length ≤ 10000000000000) : ∀ d j : Nat, zerosM l.length - j = d → j ≤ zerosM l.length →
    Ev (fun k => impl_Padded.l0 k l (l ++ [128] ++ List.replicate j 0)) (padM l) := by
  intro d
  induction d with
  | zero =>
    intro j hd hj
    obtain rfl : j = zerosM l.length := by omega
    refine Ev.up ((impl_Padded_l1 (8 * (l.length : Int)) 8 (l ++ [128] ++ List.replicate (zerosM l.length) 0) (by omega) (by simp; unfold zerosM; omega)).cast (q := padM l) rfl) (fun k hk => ?_)
    simp only [impl_Padded.l0]
    have hz : ((l ++ [128] ++ List.replicate (zerosM l.length) (0 : Int)).length : Int) = l.length + 1 + zerosM l.length := by simp; omega
    have hz2 : (zerosM l.length : Int) = ((119 - l.length % 64) % 64 : Nat) := rfl
    rw [hz, w64 (by omega) (by omega), Int.tmod_eq_emod_of_nonneg (by omega), if_pos (by omega), w64 (by omega) (by omega)]
    exact hk
  | succ d ih =>
    intro j hd hj
    refine Ev.up (ih (j + 1) (by omega) (by omega)) (fun k hk => ?_)
    simp only [impl_Padded.l0]
    have hz : ((l ++ [128] ++ List.replicate j (0 : Int)).length : Int) = l.length + 1 + j := by simp; omega
    have hz2 : zerosM l.length = ((119 - l.length % 64) % 64 : Nat) := rfl
    rw [hz, w64 (by omega) (by omega), Int.tmod_eq_emod_of_nonneg (by omega), if_neg (by omega), if_pos (by simp; omega), List.append_assoc, replicate_snoc]
    exact hk
theorem impl_Padded_ev (l : List Int) (hl : l.length ≤ 10000000000000) : Ev (fun k => impl_Padded.f k l) (padM l) := by
  refine (impl_Padded_l0 l hl _ 0 rfl (by omega)).congr (fun k => ?_)
  unfold impl_Padded.f slices_Clone_byte_byte.f
  rw [if_pos (by omega), Option.bind_some, if_pos (by omega)]
  simp
end Go.Proofs.Ytbelaenekbflfaa.P
/- What is hashed: the reference's digest answers what the program's answers. No condition but bounds on lengths. -/
namespace Go.Proofs.Ytbelaenekbflfaa.P
open Go.RowKit Go.Proofs.YtbelaenekbflfaaW.PrintWords Go.Proofs.YtbelaenekbflfaaW.PrintLast Go.Proofs.YtbelaenekbflfaaW.PrintMore
set_option linter.unusedVariables false
set_option linter.unusedSimpArgs false
/-- A word of 32 bits. -/
def W32 (x : Int) : Prop := 0 ≤ x ∧ x < 4294967296
def Wd (l : List Int) : Prop := ∀ x ∈ l, W32 x
theorem Wd.rd {l : List Int} (h : Wd l) (i : Int) : W32 (rd l i) := by
  unfold Go.Proofs.YtbelaenekbflfaaW.PrintWords.rd
  rw [List.getD_eq_getElem?_getD]
  by_cases hi : i.toNat < l.length
  · rw [List.getElem?_eq_getElem hi]
    exact h _ (List.getElem_mem hi)
  · rw [List.getElem?_eq_none (by omega)]
    exact ⟨by simp, by simp⟩
theorem W32.nat {x : Int} (h : W32 x) : ∃ n : Nat, x = (n : Int) ∧ n < 4294967296 := ⟨x.toNat, by have := h.1; omega, by have := h.2; omega⟩
theorem w32_mod (x : Int) : W32 (x % 4294967296) := ⟨by omega, by omega⟩
theorem ofInt32 (a : Nat) (ha : a < 4294967296) : (BitVec.ofInt 32 (a : Int)).toNat = a := by
  rw [BitVec.ofInt_natCast, BitVec.toNat_ofNat]
  exact Nat.mod_eq_of_lt (by omega)
theorem u32_wrap_small {n : Nat} (h1 : n < 4294967296) : IntKind.u32.wrap (n : Int) = n := by rw [IntKind.wrap_u32]; omega
theorem u32_and_nat (a b : Nat) (ha : a < 4294967296) (hb : b < 4294967296) : Go.bits .and .u32 (a : Int) (b : Int) = ((a &&& b : Nat) : Int) := by
  show IntKind.u32.wrap (((BitVec.ofInt 32 (a : Int)) &&& (BitVec.ofInt 32 (b : Int))).toNat : Int) = _
  rw [BitVec.toNat_and, ofInt32 a ha, ofInt32 b hb]
  have h_ : a &&& b ≤ a := Nat.and_le_left
  exact u32_wrap_small (by omega)
theorem u32_or_nat (a b : Nat) (ha : a < 4294967296) (hb : b < 4294967296) : Go.bits .or .u32 (a : Int) (b : Int) = ((a ||| b : Nat) : Int) := by
  show IntKind.u32.wrap (((BitVec.ofInt 32 (a : Int)) ||| (BitVec.ofInt 32 (b : Int))).toNat : Int) = _
  rw [BitVec.toNat_or, ofInt32 a ha, ofInt32 b hb]
  have h_ : a ||| b < 2 ^ 32 := Nat.or_lt_two_pow (by omega) (by omega)
  exact u32_wrap_small (by omega)
theorem u32_xor_nat (a b : Nat) (ha : a < 4294967296) (hb : b < 4294967296) : Go.bits .xor .u32 (a : Int) (b : Int) = ((a ^^^ b : Nat) : Int) := by
  show IntKind.u32.wrap (((BitVec.ofInt 32 (a : Int)) ^^^ (BitVec.ofInt 32 (b : Int))).toNat : Int) = _
  rw [BitVec.toNat_xor, ofInt32 a ha, ofInt32 b hb]
  have h_ : a ^^^ b < 2 ^ 32 := Nat.xor_lt_two_pow (by omega) (by omega)
  exact u32_wrap_small (by omega)
theorem and3264 {a b : Int} (ha : W32 a) (hb : W32 b) : Go.bits .and .i64 a b = Go.bits .and .u32 a b := by
  obtain ⟨m, rfl, hm⟩ := ha.nat
  obtain ⟨n, rfl, hn⟩ := hb.nat
  rw [u32_and_nat m n hm hn, i64_and_nat m n (by omega) (by omega)]
theorem or3264 {a b : Int} (ha : W32 a) (hb : W32 b) : Go.bits .or .i64 a b = Go.bits .or .u32 a b := by
  obtain ⟨m, rfl, hm⟩ := ha.nat
  obtain ⟨n, rfl, hn⟩ := hb.nat
  rw [u32_or_nat m n hm hn, i64_or_nat m n (by omega) (by omega)]
theorem xor3264 {a b : Int} (ha : W32 a) (hb : W32 b) : Go.bits .xor .i64 a b = Go.bits .xor .u32 a b := by
  obtain ⟨m, rfl, hm⟩ := ha.nat
  obtain ⟨n, rfl, hn⟩ := hb.nat
  rw [u32_xor_nat m n hm hn, i64_xor_nat m n (by omega) (by omega)]
theorem w32_and {a b : Int} (ha : W32 a) (hb : W32 b) : W32 (Go.bits .and .u32 a b) := by
  obtain ⟨m, rfl, hm⟩ := ha.nat
  obtain ⟨n, rfl, hn⟩ := hb.nat
  rw [u32_and_nat m n hm hn]
  have h_ : m &&& n ≤ m := Nat.and_le_left
  exact ⟨by omega, by omega⟩
theorem w32_or {a b : Int} (ha : W32 a) (hb : W32 b) : W32 (Go.bits .or .u32 a b) := by
  obtain ⟨m, rfl, hm⟩ := ha.nat
  obtain ⟨n, rfl, hn⟩ := hb.nat
  rw [u32_or_nat m n hm hn]
  have h_ : m ||| n < 2 ^ 32 := Nat.or_lt_two_pow (by omega) (by omega)
  exact ⟨by omega, by omega⟩
theorem w32_xor {a b : Int} (ha : W32 a) (hb : W32 b) : W32 (Go.bits .xor .u32 a b) := by
  obtain ⟨m, rfl, hm⟩ := ha.nat
  obtain ⟨n, rfl, hn⟩ := hb.nat
  rw [u32_xor_nat m n hm hn]
  have h_ : m ^^^ n < 2 ^ 32 := Nat.xor_lt_two_pow (by omega) (by omega)
  exact ⟨by omega, by omega⟩
theorem and_mask (x : Int) (h0 : 0 ≤ x) (h1 : x < 9223372036854775808) : Go.bits .and .i64 x 4294967295 = x % 4294967296 := by
  obtain ⟨n, rfl⟩ : ∃ n : Nat, x = (n : Int) := ⟨x.toNat, by omega⟩
  rw [show (4294967295 : Int) = ((4294967295 : Nat) : Int) from rfl, i64_and_nat n 4294967295 (by omega) (by omega), show (4294967295 : Nat) = 2 ^ 32 - 1 from rfl, Nat.and_two_pow_sub_one_eq_mod]
  omega
theorem max32 : IntKind.u32.max = 4294967295 := by decide
theorem w32_max : W32 IntKind.u32.max := by rw [max32]; exact ⟨by omega, by omega⟩
theorem w32_rotl {a : Int} (ha : W32 a) (n : Nat) : W32 (rotl a n) := by
  unfold rotl
  refine w32_or (w32_mod _) ?_
  have h0 := ha.1
  have h1 := ha.2
  exact ⟨Int.ediv_nonneg h0 (Int.pow_nonneg (by decide)), Int.lt_of_le_of_lt (Int.ediv_le_self _ h0) h1⟩
theorem w32_div {a : Int} (ha : W32 a) (n : Int) (hn : 0 < n) : W32 (a / n) := ⟨Int.ediv_nonneg ha.1 (by omega), Int.lt_of_le_of_lt (Int.ediv_le_self _ ha.1) ha.2⟩
theorem rd_take (l : List Int) (n j : Nat) (h : j < n) : rd (l.take n) (j : Int) = rd l (j : Int) := by
  unfold rd
  simp [List.getD_eq_getElem?_getD, List.getElem?_take, h]
theorem take_set (l : List Int) (i : Nat) (v : Int) (h : i < l.length) : (l.set i v).take (i + 1) = l.take i ++ [v] := by
  rw [List.take_succ_eq_append_getElem (by simpa using h), List.getElem_set_self, List.take_set, List.set_eq_of_length_le (by rw [List.length_take]; omega)]
theorem be4_w32 {b : List Int} (hb : By b) (i : Nat) : W32 (be4 b i) := by
  unfold be4
  exact w32_or (w32_or (w32_or (w32_mod _) (w32_mod _)) (w32_mod _)) (w32_mod _)
theorem wnext_w32 (l : List Int) (i : Nat) : W32 (wnext l i) := w32_mod _
theorem w16_wd {b : List Int} (hb : By b) : Wd (w16 b 16) := by
  intro x hx
  unfold w16 at hx
  rcases List.mem_append.1 hx with h | h
  · obtain ⟨i, _, rfl⟩ := List.mem_map.1 h
    exact be4_w32 hb i
  · rw [List.eq_of_mem_replicate h]
    exact ⟨by omega, by omega⟩
theorem Wd.set {l : List Int} (h : Wd l) (i : Nat) {v : Int} (hv : W32 v) : Wd (l.set i v) := fun x hx => by
  rcases List.mem_or_eq_of_mem_set hx with h1 | h1
  · exact h x h1
  · rw [h1]; exact hv
theorem wrow_wd {b : List Int} (hb : By b) : ∀ k, Wd (wrow b k)
  | 0 => w16_wd hb
  | k + 1 => (wrow_wd hb k).set _ (wnext_w32 _ _)
theorem t1of_w32 (v : List Int) (kk ww : Int) : W32 (t1of v kk ww) := w32_mod _
theorem tround_wd {v : List Int} (h : Wd v) (kk ww : Int) : Wd (tround v kk ww) := by
  intro x hx
  simp only [tround, List.mem_cons, List.not_mem_nil, or_false] at hx
  rcases hx with rfl | rfl | rfl | rfl | rfl | rfl | rfl | rfl
  · exact w32_mod _
  · exact h.rd _
  · exact h.rd _
  · exact h.rd _
  · exact w32_mod _
  · exact h.rd _
  · exact h.rd _
  · exact h.rd _
theorem vrow_wd {h : List Int} (hh : Wd h) (ws : List Int) : ∀ i, Wd (vrow h ws i)
  | 0 => hh
  | i + 1 => tround_wd (vrow_wd hh ws i) _ _
theorem hrow_wd {h : List Int} (hh : Wd h) (v : List Int) : ∀ i, Wd (hrow h v i)
  | 0 => hh
  | i + 1 => (hrow_wd hh v i).set _ (w32_mod _)
theorem kList_wd : Wd kList := by
  have h : kList.all (fun x => decide (0 ≤ x) && decide (x < 4294967296)) = true := by decide
  intro x hx
  have := List.all_eq_true.1 h x hx
  simp at this
  exact this
theorem h0List_wd : Wd h0List := by
  have h : h0List.all (fun x => decide (0 ≤ x) && decide (x < 4294967296)) = true := by decide
  intro x hx
  have := List.all_eq_true.1 h x hx
  simp at this
  exact this
theorem turn_eq {x : Int} (h : W32 x) (n : Nat) (h1 : 1 ≤ n) (h2 : n ≤ 31) : spec_l2Turn.f x (n : Int) = some (rotl x (32 - n)) := by
  obtain ⟨m, rfl, hm⟩ := h.nat
  have e1 : IntKind.u64.wrap (n : Int) = n := by rw [IntKind.wrap_u64]; omega
  have e2 : IntKind.u64.wrap (wrap64 (32 - (n : Int))) = ((32 - n : Nat) : Int) := by rw [w64 (by omega) (by omega), IntKind.wrap_u64]; omega
  unfold spec_l2Turn.f
  rw [e1, e2, if_pos (by omega), if_pos (by omega)]
  congr 1
  have hs : shr .i64 (m : Int) (n : Int) = ((m / 2 ^ n : Nat) : Int) := by
    unfold shr
    rw [Int.toNat_natCast, Nat.min_eq_left (by simp only [IntKind.bits]; omega)]
    simp
  have hp : (2 : Nat) ^ (32 - n) ≤ 2 ^ 31 := Nat.pow_le_pow_right (by decide) (by omega)
  have hlt : m * 2 ^ (32 - n) < 9223372036854775808 := by
    have : m * 2 ^ (32 - n) ≤ m * 2 ^ 31 := Nat.mul_le_mul_left _ hp
    omega
  have hl : shl .i64 (m : Int) ((32 - n : Nat) : Int) = ((m * 2 ^ (32 - n) : Nat) : Int) := by
    unfold shl
    rw [Int.toNat_natCast, Nat.min_eq_left (by simp only [IntKind.bits]; omega)]
    have e : (m : Int) * 2 ^ (32 - n) = ((m * 2 ^ (32 - n) : Nat) : Int) := by simp
    rw [e]
    exact i64_wrap_small (by omega) (by omega)
  have hd : m / 2 ^ n ≤ m := Nat.div_le_self _ _
  rw [hs, hl, i64_or_nat _ _ (by omega) (by omega), and_mask _ (by omega) (by
    have h_ : (m / 2 ^ n) ||| (m * 2 ^ (32 - n)) < 2 ^ 63 := Nat.or_lt_two_pow (by omega) (by omega)
    omega)]
  unfold rotl
  rw [show 32 - (32 - n) = n by omega]
  have e3 : (m : Int) * 2 ^ (32 - n) % 4294967296 = ((m * 2 ^ (32 - n) % 4294967296 : Nat) : Int) := by simp
  have e4 : (m : Int) / 2 ^ n = ((m / 2 ^ n : Nat) : Int) := by simp
  rw [e3, e4, u32_or_nat _ _ (Nat.mod_lt _ (by decide)) (by omega)]
  have e5 : ((m / 2 ^ n) ||| (m * 2 ^ (32 - n))) % 2 ^ 32 = (m / 2 ^ n) % 2 ^ 32 ||| (m * 2 ^ (32 - n)) % 2 ^ 32 := Nat.or_mod_two_pow
  have e6 : (m / 2 ^ n) % 2 ^ 32 = m / 2 ^ n := Nat.mod_eq_of_lt (by omega)
  have e7 : (2 : Nat) ^ 32 = 4294967296 := by decide
  rw [e6, e7] at e5
  rw [Nat.or_comm (m * 2 ^ (32 - n) % 4294967296), ← e5]
  generalize m / 2 ^ n ||| m * 2 ^ (32 - n) = A
  omega
theorem l2Words_l1 {b : List Int} (hb : By b) : ∀ d k : Nat, k + d = 48 → Ev (fun q => spec_l2Words.l1 q ((wrow b k).take (16 + k)) ((16 + k : Nat) : Int)) (wrow b 48) := by
  intro d
  induction d with
  | zero =>
    intro k hk
    obtain rfl : k = 48 := by omega
    refine Ev.up (Ev.now _) (fun q _ => ?_)
    simp only [spec_l2Words.l1]
    rw [if_neg (by omega), List.take_of_length_le (by rw [wrow_length]; omega)]
  | succ d ih =>
    intro k hk
    have hw := wrow_wd hb k
    have hl : ((wrow b k).take (16 + k)).length = 16 + k := by rw [List.length_take, wrow_length]; omega
    have hn : (wrow b (k + 1)).take (16 + (k + 1)) = (wrow b k).take (16 + k) ++ [wnext (wrow b k) (16 + k)] := take_set (wrow b k) (16 + k) _ (by rw [wrow_length]; omega)
    refine Ev.up (ih (k + 1) (by omega)) (fun q hq => ?_)
    rw [hn] at hq
    simp only [spec_l2Words.l1]
    have r1 := rd_take (wrow b k) (16 + k) (16 + k - 15) (by omega)
    have r2 := rd_take (wrow b k) (16 + k) (16 + k - 2) (by omega)
    have r3 := rd_take (wrow b k) (16 + k) (16 + k - 16) (by omega)
    have r4 := rd_take (wrow b k) (16 + k) (16 + k - 7) (by omega)
    have i1 : wrap64 (((16 + k : Nat) : Int) - 15) = ((16 + k - 15 : Nat) : Int) := by rw [w64 (by omega) (by omega)]; omega
    have i2 : wrap64 (((16 + k : Nat) : Int) - 2) = ((16 + k - 2 : Nat) : Int) := by rw [w64 (by omega) (by omega)]; omega
    have i3 : wrap64 (((16 + k : Nat) : Int) - 16) = ((16 + k - 16 : Nat) : Int) := by rw [w64 (by omega) (by omega)]; omega
    have i4 : wrap64 (((16 + k : Nat) : Int) - 7) = ((16 + k - 7 : Nat) : Int) := by rw [w64 (by omega) (by omega)]; omega
    have hx := hw.rd ((16 + k - 15 : Nat) : Int)
    have hy := hw.rd ((16 + k - 2 : Nat) : Int)
    have hz := hw.rd ((16 + k - 16 : Nat) : Int)
    have hv := hw.rd ((16 + k - 7 : Nat) : Int)
    rw [i1, i2, i3, i4, r1, r2, r3, r4, hl]
    have t1 : spec_l2Turn.f (rd (wrow b k) ((16 + k - 15 : Nat) : Int)) 7 = some _ := turn_eq hx 7 (by omega) (by omega)
    have t2 : spec_l2Turn.f (rd (wrow b k) ((16 + k - 15 : Nat) : Int)) 18 = some _ := turn_eq hx 18 (by omega) (by omega)
    have t3 : spec_l2Turn.f (rd (wrow b k) ((16 + k - 2 : Nat) : Int)) 17 = some _ := turn_eq hy 17 (by omega) (by omega)
    have t4 : spec_l2Turn.f (rd (wrow b k) ((16 + k - 2 : Nat) : Int)) 19 = some _ := turn_eq hy 19 (by omega) (by omega)
    rw [if_pos (by omega), if_pos (by omega), if_pos (by omega), if_pos (by omega), if_pos (by omega), t1, Option.bind_some, t2, Option.bind_some, t3, Option.bind_some, t4, Option.bind_some,
      if_pos (by omega), if_pos (by omega), if_pos (by omega), if_pos (by omega), if_pos (by omega)]
    rw [w64 (x := ((16 + k : Nat) : Int) + 1) (by omega) (by omega)]
    have q1 := w32_rotl hx 25
    have q2 := w32_rotl hx 14
    have q3 := w32_rotl hy 15
    have q4 := w32_rotl hy 13
    have q5 := w32_div hx 8 (by omega)
    have q6 := w32_div hy 1024 (by omega)
    have s1 := w32_xor (w32_xor q1 q2) q5
    have s2 := w32_xor (w32_xor q3 q4) q6
    rw [xor3264 q1 q2, xor3264 (w32_xor q1 q2) q5, xor3264 q3 q4, xor3264 (w32_xor q3 q4) q6]
    have ev : Go.bits .and .i64 (wrap64 ((wrap64 ((wrap64 ((rd (wrow b k) ((16 + k - 16 : Nat) : Int)) + (Go.bits .xor .u32 (Go.bits .xor .u32 (rotl (rd (wrow b k) ((16 + k - 15 : Nat) : Int)) 25) (rotl (rd (wrow b k) ((16 + k - 15 : Nat) : Int)) 14)) ((rd (wrow b k) ((16 + k - 15 : Nat) : Int)) / 8)))) + (rd (wrow b k) ((16 + k - 7 : Nat) : Int)))) + (Go.bits .xor .u32 (Go.bits .xor .u32 (rotl (rd (wrow b k) ((16 + k - 2 : Nat) : Int)) 15) (rotl (rd (wrow b k) ((16 + k - 2 : Nat) : Int)) 13)) ((rd (wrow b k) ((16 + k - 2 : Nat) : Int)) / 1024)))) 4294967295 = wnext (wrow b k) (16 + k) := by
      obtain ⟨a1, a2⟩ := s1
      obtain ⟨b1, b2⟩ := s2
      obtain ⟨c1, c2⟩ := hz
      obtain ⟨d1, d2⟩ := hv
      unfold wnext
      generalize Go.bits .xor .u32 (Go.bits .xor .u32 (rotl (rd (wrow b k) ((16 + k - 15 : Nat) : Int)) 25) (rotl (rd (wrow b k) ((16 + k - 15 : Nat) : Int)) 14)) ((rd (wrow b k) ((16 + k - 15 : Nat) : Int)) / 8) = S at *
      generalize Go.bits .xor .u32 (Go.bits .xor .u32 (rotl (rd (wrow b k) ((16 + k - 2 : Nat) : Int)) 15) (rotl (rd (wrow b k) ((16 + k - 2 : Nat) : Int)) 13)) ((rd (wrow b k) ((16 + k - 2 : Nat) : Int)) / 1024) = T at *
      rw [w64 (x := rd (wrow b k) ((16 + k - 16 : Nat) : Int) + S) (by omega) (by omega), w64 (x := rd (wrow b k) ((16 + k - 16 : Nat) : Int) + S + _) (by omega) (by omega), w64 (x := rd (wrow b k) ((16 + k - 16 : Nat) : Int) + S + _ + T) (by omega) (by omega), and_mask _ (by omega) (by omega)]
    rw [ev]
    exact hq
theorem l2Words_l0 {b : List Int} (hb : By b) (h64 : b.length = 64) : ∀ d i : Nat, i + d = 16 → Ev (fun q => spec_l2Words.l0 q b ((List.range i).map (be4 b)) (i : Int)) (wrow b 48) := by
  intro d
  induction d with
  | zero =>
    intro i hi
    obtain rfl : i = 16 := by omega
    refine Ev.up (l2Words_l1 hb 48 0 rfl) (fun q hq => ?_)
    simp only [spec_l2Words.l0]
    rw [if_neg (by omega)]
    have e : (wrow b 0).take (16 + 0) = (List.range 16).map (be4 b) := by
      show ((List.range 16).map (be4 b) ++ List.replicate (64 - 16) 0).take 16 = _
      rw [List.take_append_of_le_length (by simp), List.take_of_length_le (by simp)]
    rw [e] at hq
    exact hq
  | succ d ih =>
    intro i hi
    refine Ev.up (ih (i + 1) (by omega)) (fun q hq => ?_)
    simp only [spec_l2Words.l0]
    have i1 : wrap64 (4 * (i : Int)) = ((4 * i : Nat) : Int) := by rw [w64 (by omega) (by omega)]; omega
    have i2 : wrap64 (((4 * i : Nat) : Int) + 1) = ((4 * i + 1 : Nat) : Int) := by rw [w64 (by omega) (by omega)]; omega
    have i3 : wrap64 (((4 * i : Nat) : Int) + 2) = ((4 * i + 2 : Nat) : Int) := by rw [w64 (by omega) (by omega)]; omega
    have i4 : wrap64 (((4 * i : Nat) : Int) + 3) = ((4 * i + 3 : Nat) : Int) := by rw [w64 (by omega) (by omega)]; omega
    rw [i1, i2, i3, i4, if_pos (by omega), if_pos (by omega), if_pos (by omega), if_pos (by omega), if_pos (by omega), if_pos (by omega), if_pos (by omega), if_pos (by omega), if_pos (by omega), if_pos (by simp; omega)]
    rw [w64 (x := (i : Int) + 1) (by omega) (by omega)]
    have c0 := hb.rd ((4 * i : Nat) : Int)
    have c1 := hb.rd ((4 * i + 1 : Nat) : Int)
    have c2 := hb.rd ((4 * i + 2 : Nat) : Int)
    have c3 := hb.rd ((4 * i + 3 : Nat) : Int)
    have ev : Go.bits .or .i64 (Go.bits .or .i64 (Go.bits .or .i64 (wrap64 ((wrap64 (rd b ((4 * i : Nat) : Int))) * 16777216)) (wrap64 ((wrap64 (rd b ((4 * i + 1 : Nat) : Int))) * 65536))) (wrap64 ((wrap64 (rd b ((4 * i + 2 : Nat) : Int))) * 256))) (wrap64 (rd b ((4 * i + 3 : Nat) : Int))) = be4 b i := by
      unfold be4
      generalize rd b ((4 * i : Nat) : Int) = x0 at *
      generalize rd b ((4 * i + 1 : Nat) : Int) = x1 at *
      generalize rd b ((4 * i + 2 : Nat) : Int) = x2 at *
      generalize rd b ((4 * i + 3 : Nat) : Int) = x3 at *
      have e0 : wrap64 (wrap64 x0 * 16777216) = x0 % 4294967296 * 16777216 % 4294967296 := by rw [w64 (x := x0) (by omega) (by omega), w64 (by omega) (by omega)]; omega
      have e1 : wrap64 (wrap64 x1 * 65536) = x1 % 4294967296 * 65536 % 4294967296 := by rw [w64 (x := x1) (by omega) (by omega), w64 (by omega) (by omega)]; omega
      have e2 : wrap64 (wrap64 x2 * 256) = x2 % 4294967296 * 256 % 4294967296 := by rw [w64 (x := x2) (by omega) (by omega), w64 (by omega) (by omega)]; omega
      have e3 : wrap64 x3 = x3 % 4294967296 := by rw [w64 (x := x3) (by omega) (by omega)]; omega
      rw [e0, e1, e2, e3, or3264 (w32_mod _) (w32_mod _), or3264 (w32_or (w32_mod _) (w32_mod _)) (w32_mod _), or3264 (w32_or (w32_or (w32_mod _) (w32_mod _)) (w32_mod _)) (w32_mod _)]
    rw [ev]
    rw [List.range_succ, List.map_append] at hq
    exact hq
theorem l2Words_ev {b : List Int} (hb : By b) (h64 : b.length = 64) : Ev (fun k => spec_l2Words.f k b) (wrow b 48) :=
  (l2Words_l0 hb h64 16 0 rfl).congr (fun k => rfl)
theorem l2Block_l1 (h v : List Int) (h8 : h.length = 8) (v8 : v.length = 8) (hh : Wd h) (hv : Wd v) : Ev (fun q => spec_l2Block.l1 q h v 0) (hrow h v 8) := by
  obtain ⟨h0, h1, h2, h3, h4, h5, h6, h7, rfl⟩ := oct_of h8
  obtain ⟨v0, v1, v2, v3, v4, v5, v6, v7, rfl⟩ := oct_of v8
  have s : ∀ a ∈ [v0, v1, v2, v3, v4, v5, v6, v7], ∀ b ∈ [h0, h1, h2, h3, h4, h5, h6, h7], Go.bits .and .i64 (wrap64 (a + b)) 4294967295 = (b + a) % 4294967296 := by
    intro a ha b hb
    have x := hv a ha
    have y := hh b hb
    rw [w64 (by have := x.1; have := y.1; omega) (by have := x.2; have := y.2; omega), and_mask _ (by have := x.1; have := y.1; omega) (by have := x.2; have := y.2; omega), Int.add_comm]
  have st : ∀ (x : List Int) (i : Nat) (a b : Int), x.length = 8 → i < 8 → rd x (i : Int) = a → rd [h0, h1, h2, h3, h4, h5, h6, h7] (i : Int) = b → a ∈ [v0, v1, v2, v3, v4, v5, v6, v7] → b ∈ [h0, h1, h2, h3, h4, h5, h6, h7] → ∀ r,
      Ev (fun q => spec_l2Block.l1 q [h0, h1, h2, h3, h4, h5, h6, h7] (x.set i ((b + a) % 4294967296)) ((i + 1 : Nat) : Int)) r → Ev (fun q => spec_l2Block.l1 q [h0, h1, h2, h3, h4, h5, h6, h7] x (i : Int)) r := by
    intro x i a b hx hi ha hb h1 h2 r hr
    refine Ev.up hr (fun q hq => ?_)
    simp only [spec_l2Block.l1]
    rw [if_pos (by omega), if_pos (by omega), if_pos (by omega), if_pos (by simp; omega), ha, hb, s a h1 b h2, Int.toNat_natCast, w64 (by omega) (by omega)]
    exact hq
  refine st _ 0 v0 h0 rfl (by omega) rfl rfl (by simp) (by simp) _ ?_
  refine st _ 1 v1 h1 rfl (by omega) rfl rfl (by simp) (by simp) _ ?_
  refine st _ 2 v2 h2 rfl (by omega) rfl rfl (by simp) (by simp) _ ?_
  refine st _ 3 v3 h3 rfl (by omega) rfl rfl (by simp) (by simp) _ ?_
  refine st _ 4 v4 h4 rfl (by omega) rfl rfl (by simp) (by simp) _ ?_
  refine st _ 5 v5 h5 rfl (by omega) rfl rfl (by simp) (by simp) _ ?_
  refine st _ 6 v6 h6 rfl (by omega) rfl rfl (by simp) (by simp) _ ?_
  refine st _ 7 v7 h7 rfl (by omega) rfl rfl (by simp) (by simp) _ ?_
  refine Ev.up (Ev.now _) (fun q _ => ?_)
  simp only [spec_l2Block.l1]
  rw [if_neg (by decide)]
  rfl
theorem l2Block_l0 (h ws : List Int) (h8 : h.length = 8) (hh : Wd h) (hws : Wd ws) (w64l : ws.length = 64) : ∀ d i : Nat, i + d = 64 → Ev (fun q => spec_l2Block.l0 q h kList ws (vrow h ws i) (i : Int)) (hrow h (vrow h ws 64) 8) := by
  intro d
  induction d with
  | zero =>
    intro i hi
    obtain rfl : i = 64 := by omega
    refine Ev.up (l2Block_l1 h _ h8 (vrow_length h ws h8 64) hh (vrow_wd hh ws 64)) (fun q hq => ?_)
    simp only [spec_l2Block.l0]
    rw [if_neg (by omega)]
    exact hq
  | succ d ih =>
    intro i hi
    refine Ev.up (ih (i + 1) (by omega)) (fun q hq => ?_)
    have hr : vrow h ws (i + 1) = tround (vrow h ws i) (rd kList (i : Int)) (rd ws (i : Int)) := rfl
    rw [hr] at hq
    have hvw := vrow_wd hh ws i
    have hv8 := vrow_length h ws h8 i
    generalize vrow h ws i = v at *
    have hk := kList_wd.rd (i : Int)
    have hw := hws.rd (i : Int)
    have hkl : (kList.length : Int) = 64 := rfl
    have hwl : (ws.length : Int) = 64 := by omega
    have hvl : (v.length : Int) = 8 := by omega
    have e4 := hvw.rd 4
    have e0 := hvw.rd 0
    simp only [spec_l2Block.l0]
    have t1 : spec_l2Turn.f (rd v 4) 6 = some (rotl (rd v 4) 26) := turn_eq e4 6 (by omega) (by omega)
    have t2 : spec_l2Turn.f (rd v 4) 11 = some (rotl (rd v 4) 21) := turn_eq e4 11 (by omega) (by omega)
    have t3 : spec_l2Turn.f (rd v 4) 25 = some (rotl (rd v 4) 7) := turn_eq e4 25 (by omega) (by omega)
    have t4 : spec_l2Turn.f (rd v 0) 2 = some (rotl (rd v 0) 30) := turn_eq e0 2 (by omega) (by omega)
    have t5 : spec_l2Turn.f (rd v 0) 13 = some (rotl (rd v 0) 19) := turn_eq e0 13 (by omega) (by omega)
    have t6 : spec_l2Turn.f (rd v 0) 22 = some (rotl (rd v 0) 10) := turn_eq e0 22 (by omega) (by omega)
    rw [hvl, hkl, hwl, if_pos (by omega), if_pos (by omega), t1, Option.bind_some, t2, Option.bind_some, t3, Option.bind_some, if_pos (by omega), if_pos (by omega), if_pos (by omega), if_pos (by omega), if_pos (by omega), if_pos (by omega), if_pos (by omega), t4, Option.bind_some, t5, Option.bind_some, t6, Option.bind_some, if_pos (by omega), if_pos (by omega), if_pos (by omega)]
    rw [w64 (x := (i : Int) + 1) (by omega) (by omega)]
    have q1 := w32_rotl e4 26
    have q2 := w32_rotl e4 21
    have q3 := w32_rotl e4 7
    have q4 := w32_rotl e0 30
    have q5 := w32_rotl e0 19
    have q6 := w32_rotl e0 10
    have s1 := w32_xor (w32_xor q1 q2) q3
    have s0 := w32_xor (w32_xor q4 q5) q6
    have a1 := w32_and e4 (hvw.rd 5)
    have a2 := w32_xor w32_max e4
    have a3 := w32_and a2 (hvw.rd 6)
    have ch := w32_xor a1 a3
    have b1 := w32_and e0 (hvw.rd 1)
    have b2 := w32_and e0 (hvw.rd 2)
    have b3 := w32_and (hvw.rd 1) (hvw.rd 2)
    have b4 := w32_xor b1 b2
    have mj := w32_xor b4 b3
    have x1 : Go.bits .xor .i64 (Go.bits .xor .i64 (rotl (rd v 4) 26) (rotl (rd v 4) 21)) (rotl (rd v 4) 7) = Go.bits .xor .u32 (Go.bits .xor .u32 (rotl (rd v 4) 26) (rotl (rd v 4) 21)) (rotl (rd v 4) 7) := by rw [xor3264 q1 q2, xor3264 (w32_xor q1 q2) q3]
    have x2 : Go.bits .xor .i64 (Go.bits .xor .i64 (rotl (rd v 0) 30) (rotl (rd v 0) 19)) (rotl (rd v 0) 10) = Go.bits .xor .u32 (Go.bits .xor .u32 (rotl (rd v 0) 30) (rotl (rd v 0) 19)) (rotl (rd v 0) 10) := by rw [xor3264 q4 q5, xor3264 (w32_xor q4 q5) q6]
    have x3 : Go.bits .xor .i64 (Go.bits .and .i64 (rd v 4) (rd v 5)) (Go.bits .and .i64 (Go.bits .xor .i64 4294967295 (rd v 4)) (rd v 6)) = Go.bits .xor .u32 (Go.bits .and .u32 (rd v 4) (rd v 5)) (Go.bits .and .u32 (Go.bits .xor .u32 IntKind.u32.max (rd v 4)) (rd v 6)) := by
      rw [← max32, and3264 e4 (hvw.rd 5), xor3264 w32_max e4, and3264 a2 (hvw.rd 6), xor3264 a1 a3]
    have x4 : Go.bits .xor .i64 (Go.bits .xor .i64 (Go.bits .and .i64 (rd v 0) (rd v 1)) (Go.bits .and .i64 (rd v 0) (rd v 2))) (Go.bits .and .i64 (rd v 1) (rd v 2)) = Go.bits .xor .u32 (Go.bits .xor .u32 (Go.bits .and .u32 (rd v 0) (rd v 1)) (Go.bits .and .u32 (rd v 0) (rd v 2))) (Go.bits .and .u32 (rd v 1) (rd v 2)) := by
      rw [and3264 e0 (hvw.rd 1), and3264 e0 (hvw.rd 2), and3264 (hvw.rd 1) (hvw.rd 2), xor3264 b1 b2, xor3264 b4 b3]
    rw [x1, x2, x3, x4]
    have e3 := hvw.rd 3
    have e7 := hvw.rd 7
    have ht : t1of v (rd kList (i : Int)) (rd ws (i : Int)) = (rd v 7 + Go.bits .xor .u32 (Go.bits .xor .u32 (rotl (rd v 4) 26) (rotl (rd v 4) 21)) (rotl (rd v 4) 7) + Go.bits .xor .u32 (Go.bits .and .u32 (rd v 4) (rd v 5)) (Go.bits .and .u32 (Go.bits .xor .u32 IntKind.u32.max (rd v 4)) (rd v 6)) + rd kList (i : Int) + rd ws (i : Int)) % 4294967296 := by
      unfold t1of
      rw [Int.emod_add_emod]
    unfold tround at hq
    rw [ht] at hq
    generalize Go.bits .xor .u32 (Go.bits .xor .u32 (rotl (rd v 4) 26) (rotl (rd v 4) 21)) (rotl (rd v 4) 7) = S1 at *
    generalize Go.bits .xor .u32 (Go.bits .xor .u32 (rotl (rd v 0) 30) (rotl (rd v 0) 19)) (rotl (rd v 0) 10) = S0 at *
    generalize Go.bits .xor .u32 (Go.bits .and .u32 (rd v 4) (rd v 5)) (Go.bits .and .u32 (Go.bits .xor .u32 IntKind.u32.max (rd v 4)) (rd v 6)) = CH at *
    generalize Go.bits .xor .u32 (Go.bits .xor .u32 (Go.bits .and .u32 (rd v 0) (rd v 1)) (Go.bits .and .u32 (rd v 0) (rd v 2))) (Go.bits .and .u32 (rd v 1) (rd v 2)) = MJ at *
    generalize rd kList (i : Int) = kk at *
    generalize rd ws (i : Int) = ww at *
    obtain ⟨m1, m2⟩ := s1
    obtain ⟨m3, m4⟩ := s0
    obtain ⟨m5, m6⟩ := ch
    obtain ⟨m7, m8⟩ := mj
    obtain ⟨m9, m10⟩ := hk
    obtain ⟨m11, m12⟩ := hw
    obtain ⟨m13, m14⟩ := e7
    obtain ⟨m15, m16⟩ := e3
    have T : wrap64 ((wrap64 ((wrap64 ((wrap64 ((rd v 7) + S1)) + CH)) + kk)) + ww) = rd v 7 + S1 + CH + kk + ww := by
      rw [w64 (x := rd v 7 + S1) (by omega) (by omega), w64 (x := rd v 7 + S1 + CH) (by omega) (by omega), w64 (x := rd v 7 + S1 + CH + kk) (by omega) (by omega), w64 (by omega) (by omega)]
    rw [T, w64 (x := S0 + MJ) (by omega) (by omega), w64 (x := rd v 7 + S1 + CH + kk + ww + (S0 + MJ)) (by omega) (by omega), w64 (x := rd v 3 + _) (by omega) (by omega), and_mask _ (by omega) (by omega), and_mask _ (by omega) (by omega)]
    have u1 : (rd v 7 + S1 + CH + kk + ww + (S0 + MJ)) % 4294967296 = ((rd v 7 + S1 + CH + kk + ww) % 4294967296 + S0 + MJ) % 4294967296 := by omega
    have u2 : (rd v 3 + (rd v 7 + S1 + CH + kk + ww)) % 4294967296 = (rd v 3 + (rd v 7 + S1 + CH + kk + ww) % 4294967296) % 4294967296 := by omega
    rw [u1, u2]
    exact hq
theorem l2Block_ev {h b : List Int} (h8 : h.length = 8) (hh : Wd h) (hb : By b) (h64 : b.length = 64) : Ev (fun k => spec_l2Block.f k h b kList) (tblock h b) := by
  obtain ⟨K1, e1⟩ := Ev.get (l2Words_ev hb h64)
  obtain ⟨K2, e2⟩ := Ev.get (l2Block_l0 h (wrow b 48) h8 hh (wrow_wd hb 48) (wrow_length b 48) 64 0 rfl)
  refine ⟨K1 + K2, fun k hk => ?_⟩
  show spec_l2Block.f k h b kList = some (tblock h b)
  unfold spec_l2Block.f
  rw [e1 _ (by omega), Option.bind_some, Option.bind_some, if_pos (by simp; omega), List.nil_append]
  exact e2 k (by omega)
theorem tblock_wd {h b : List Int} (hh : Wd h) : Wd (tblock h b) := hrow_wd hh _ _
theorem dwords_wd (p : List Int) : ∀ k, Wd (dwords p k)
  | 0 => h0List_wd
  | k + 1 => by
    have := dwords_wd p k
    unfold dwords at this ⊢
    rw [List.range_succ, List.foldl_append]
    exact tblock_wd this
theorem dwords_succ (p : List Int) (k : Nat) : dwords p (k + 1) = tblock (dwords p k) ((p.take (64 * k + 64)).drop (64 * k)) := by
  unfold dwords
  rw [List.range_succ, List.foldl_append]
  rfl
/-- The digest of bytes. -/
def digB (l : List Int) : List Int := dbytes (dwords (padM l) ((padM l).length / 64))
def digM (l : List Int) : ByteArray := strOfNums (digB l)
theorem dbytes_by (h : List Int) : By (dbytes h) := by
  intro x hx
  unfold dbytes at hx
  obtain ⟨a, _, hb⟩ := List.mem_flatMap.1 hx
  simp only [List.mem_cons, List.not_mem_nil, or_false] at hb
  rcases hb with rfl | rfl | rfl | rfl <;> omega
theorem digB_by (l : List Int) : By (digB l) := dbytes_by _
theorem digB_length (l : List Int) : (digB l).length = 32 := by
  unfold digB
  obtain ⟨x0, x1, x2, x3, x4, x5, x6, x7, h⟩ := oct_of (dwords_length (padM l) ((padM l).length / 64))
  rw [h]
  rfl
theorem spec_Digest_l1 (h : List Int) (h8 : h.length = 8) : Ev (fun q => spec_Digest.l1 q h [] 0) (strOfNums (dbytes h)) := by
  obtain ⟨h0, h1, h2, h3, h4, h5, h6, h7, rfl⟩ := oct_of h8
  have st : ∀ (x : List Int) (i : Nat) (b : Int), x.length ≤ 40 → i < 8 → rd [h0, h1, h2, h3, h4, h5, h6, h7] (i : Int) = b → ∀ r,
      Ev (fun q => spec_Digest.l1 q [h0, h1, h2, h3, h4, h5, h6, h7] (x ++ [b / 16777216 % 256, b / 65536 % 256, b / 256 % 256, b % 256]) ((i + 1 : Nat) : Int)) r → Ev (fun q => spec_Digest.l1 q [h0, h1, h2, h3, h4, h5, h6, h7] x (i : Int)) r := by
    intro x i b hx hi hb r hr
    refine Ev.up hr (fun q hq => ?_)
    simp only [spec_Digest.l1]
    rw [if_pos (by omega), if_pos (by omega), if_pos (by simp; omega), hb, Option.bind_some, if_pos (by simp; omega), w64 (by omega) (by omega)]
    exact hq
  refine st _ 0 h0 (by simp) (by omega) rfl _ ?_
  refine st _ 1 h1 (by simp) (by omega) rfl _ ?_
  refine st _ 2 h2 (by simp) (by omega) rfl _ ?_
  refine st _ 3 h3 (by simp) (by omega) rfl _ ?_
  refine st _ 4 h4 (by simp) (by omega) rfl _ ?_
  refine st _ 5 h5 (by simp) (by omega) rfl _ ?_
  refine st _ 6 h6 (by simp) (by omega) rfl _ ?_
  refine st _ 7 h7 (by simp) (by omega) rfl _ ?_
  refine Ev.up (Ev.now _) (fun q _ => ?_)
  simp only [spec_Digest.l1]
  rw [if_neg (by decide)]
  rfl
theorem spec_Digest_l0 (p : List Int) (hp : By p) (m : Nat) (hm : p.length = 64 * m) (hl : p.length ≤ 100000000000000) : ∀ d i : Nat, i + d = m → Ev (fun q => spec_Digest.l0 q p (dwords p i) kList ((64 * i : Nat) : Int)) (strOfNums (dbytes (dwords p m))) := by
  intro d
  induction d with
  | zero =>
    intro i hi
    obtain rfl : i = m := by omega
    refine Ev.up (spec_Digest_l1 _ (dwords_length p i)) (fun q hq => ?_)
    simp only [spec_Digest.l0]
    rw [if_neg (by omega)]
    exact hq
  | succ d ih =>
    intro i hi
    have hb : By ((p.take (64 * i + 64)).drop (64 * i)) := fun x hx => hp x (List.mem_of_mem_take (List.mem_of_mem_drop hx))
    obtain ⟨K1, e1⟩ := Ev.get (l2Block_ev (dwords_length p i) (dwords_wd p i) hb (by rw [List.length_drop, List.length_take]; omega))
    obtain ⟨K2, e2⟩ := Ev.get (ih (i + 1) (by omega))
    refine Ev.up (f := fun q => if K1 + K2 ≤ q then some (strOfNums (dbytes (dwords p m))) else none) ⟨K1 + K2, fun q hq => if_pos hq⟩ (fun q hq => ?_)
    have hq' : K1 + K2 ≤ q := by
      apply Classical.byContradiction
      intro hn
      rw [if_neg hn] at hq
      cases hq
    simp only [spec_Digest.l0]
    have ew : wrap64 (((64 * i : Nat) : Int) + 64) = ((64 * i + 64 : Nat) : Int) := by rw [w64 (by omega) (by omega)]; omega
    rw [ew, if_pos (by omega), if_pos (by omega), if_pos (by omega), if_pos (by omega), Int.toNat_natCast, Int.toNat_natCast, e1 _ (by omega), Option.bind_some, ← dwords_succ]
    exact e2 q (by omega)
theorem spec_Digest_ev (l : List Int) (hb : By l) (hl : l.length ≤ 10000000000000) : Ev (fun k => spec_Digest.f k l) (digM l) := by
  have hp := padM_by hb
  have hm := padM_mod l
  have hle := padM_len_le l
  obtain ⟨K1, e1⟩ := Ev.get (spec_Padded_ev l hl)
  obtain ⟨K2, e2⟩ := Ev.get (spec_Digest_l0 (padM l) hp ((padM l).length / 64) (by omega) (by omega) _ 0 (Nat.zero_add _))
  refine ⟨K1 + K2, fun k hk => ?_⟩
  show spec_Digest.f k l = some (digM l)
  unfold spec_Digest.f
  rw [e1 _ (by omega), Option.bind_some]
  show spec_Digest.l0 k (padM l) h0List kList 0 = some (digM l)
  exact e2 k (by omega)
theorem impl_Digest_ev (l : List Int) (hl : l.length ≤ 10000000000000) : Ev (fun k => impl_Digest.f k l) (digM l) := by
  have hm := padM_mod l
  have hle := padM_len_le l
  have hlen := padM_length l
  obtain ⟨K1, e1⟩ := Ev.get (impl_Padded_ev l hl)
  refine ⟨K1, fun k hk => ?_⟩
  show impl_Digest.f k l = some (digM l)
  unfold impl_Digest.f dg_Digest.f
  rw [e1 _ hk, Option.bind_some, if_pos ⟨by omega, hm, by omega⟩]
  rfl
end Go.Proofs.Ytbelaenekbflfaa.P
/- The tree of digests over pairs: the program's and the reference's answer what the model answers. No condition but bounds on lengths. -/
namespace Go.Proofs.Ytbelaenekbflfaa.P
open Go.RowKit Go.Proofs.YtbelaenekbflfaaW.PrintWords Go.Proofs.YtbelaenekbflfaaW.PrintLast Go.Proofs.YtbelaenekbflfaaW.PrintMore
set_option linter.unusedVariables false
set_option linter.unusedSimpArgs false
theorem strOfNums_size (l : List Int) : (strOfNums l).size = l.length := by
  unfold strOfNums
  simp [ByteArray.size]
theorem digM_size (l : List Int) : (digM l).size = 32 := by
  unfold digM
  rw [strOfNums_size, digB_length]
def nodeB (a b : ByteArray) : List Int := [1] ++ bytesOf a ++ bytesOf b
def nodeM (a b : ByteArray) : ByteArray := digM (nodeB a b)
def leafB (a b : ByteArray) : List Int := putTextM (putTextM [0] a) b
def leafM (a b : ByteArray) : ByteArray := digM (leafB a b)
def topB (n : Int) (s : ByteArray) : List Int := putNumM [2] n ++ bytesOf s
theorem nodeB_by (a b : ByteArray) : By (nodeB a b) := By.app (By.app (By.one (by omega) (by omega)) (By.bytesOf _)) (By.bytesOf _)
theorem nodeB_length (a b : ByteArray) : (nodeB a b).length = a.size + b.size + 1 := by
  have h : (nodeB a b).length = 1 + (bytesOf a).length + (bytesOf b).length := by
    unfold nodeB
    rw [List.length_append, List.length_append]
    rfl
  rw [h, bytesOf_length, bytesOf_length]
  omega
theorem leafB_by (a b : ByteArray) : By (leafB a b) := putTextM_by (putTextM_by (By.one (by omega) (by omega)) _) _
theorem leafB_len (a b : ByteArray) : (leafB a b).length ≤ a.size + b.size + 11 := by
  have h1 := putTextM_len [0] a
  have h2 := putTextM_len (putTextM [0] a) b
  unfold leafB
  simp at h1
  omega
theorem topB_by (n : Int) (s : ByteArray) : By (topB n s) := By.app (putNumM_by (By.one (by omega) (by omega)) _) (By.bytesOf _)
theorem topB_len (n : Int) (s : ByteArray) : (topB n s).length ≤ s.size + 6 := by
  have h1 := putNumM_len [2] n
  unfold topB
  rw [List.length_append, bytesOf_length]
  simp at h1
  omega
theorem nodeM_size (a b : ByteArray) : (nodeM a b).size = 32 := digM_size _
theorem leafM_size (a b : ByteArray) : (leafM a b).size = 32 := digM_size _
theorem spec_l4Node_eq (a b : ByteArray) (ha : a.size ≤ 1000000000000) (hb : b.size ≤ 1000000000000) : spec_l4Node.f a b = some (nodeB a b) := by
  unfold spec_l4Node.f
  rw [Option.bind_some, if_pos (by simp; omega), Option.bind_some, if_pos (by simp [bytesOf_length]; omega)]
  rfl
theorem spec_NodeOf_ev (a b : ByteArray) (ha : a.size ≤ 1000000000000) (hb : b.size ≤ 1000000000000) : Ev (fun k => spec_NodeOf.f k a b) (nodeM a b) := by
  obtain ⟨K1, e1⟩ := Ev.get (spec_Digest_ev (nodeB a b) (nodeB_by a b) (by rw [nodeB_length]; omega))
  refine ⟨K1, fun k hk => ?_⟩
  show spec_NodeOf.f k a b = _
  unfold spec_NodeOf.f
  rw [spec_l4Node_eq a b ha hb, Option.bind_some, e1 _ hk, Option.bind_some]
  rfl
theorem impl_nodeBytes_eq (a b : ByteArray) (ha : a.size ≤ 1000000000000) (hb : b.size ≤ 1000000000000) : impl_nodeBytes.f a b = some (nodeB a b) := by
  unfold impl_nodeBytes.f
  rw [Option.bind_some, if_pos (by simp; omega), Option.bind_some, if_pos (by simp [bytesOf_length]; omega)]
  rfl
theorem impl_NodeOf_ev (a b : ByteArray) (ha : a.size ≤ 1000000000000) (hb : b.size ≤ 1000000000000) : Ev (fun k => impl_NodeOf.f k a b) (nodeM a b) := by
  obtain ⟨K1, e1⟩ := Ev.get (impl_Digest_ev (nodeB a b) (by rw [nodeB_length]; omega))
  refine ⟨K1, fun k hk => ?_⟩
  show impl_NodeOf.f k a b = _
  unfold impl_NodeOf.f
  rw [impl_nodeBytes_eq a b ha hb, Option.bind_some, e1 _ hk, Option.bind_some]
  rfl
theorem spec_l4Leaf_ev (a b : ByteArray) (ha : a.size ≤ 1000000000000) (hb : b.size ≤ 1000000000000) : Ev (fun k => spec_l4Leaf.f k a b) (leafB a b) := by
  have h1 := putTextM_len [0] a
  simp at h1
  obtain ⟨K1, e1⟩ := Ev.get (spec_PutText_ev [0] a (by simp) (by omega))
  obtain ⟨K2, e2⟩ := Ev.get (spec_PutText_ev (putTextM [0] a) b (by omega) (by omega))
  refine ⟨K1 + K2, fun k hk => ?_⟩
  show spec_l4Leaf.f k a b = _
  unfold spec_l4Leaf.f
  rw [e1 _ (by omega), Option.bind_some, e2 _ (by omega), Option.bind_some]
  rfl
theorem spec_LeafOf_ev (a b : ByteArray) (ha : a.size ≤ 1000000000000) (hb : b.size ≤ 1000000000000) : Ev (fun k => spec_LeafOf.f k a b) (leafM a b) := by
  have hl := leafB_len a b
  obtain ⟨K1, e1⟩ := Ev.get (spec_l4Leaf_ev a b ha hb)
  obtain ⟨K2, e2⟩ := Ev.get (spec_Digest_ev (leafB a b) (leafB_by a b) (by omega))
  refine ⟨K1 + K2, fun k hk => ?_⟩
  show spec_LeafOf.f k a b = _
  unfold spec_LeafOf.f
  rw [e1 _ (by omega), Option.bind_some, e2 _ (by omega), Option.bind_some]
  rfl
theorem impl_leafBytes_ev (a b : ByteArray) (ha : a.size ≤ 1000000000000) (hb : b.size ≤ 1000000000000) : Ev (fun k => impl_leafBytes.f k a b) (leafB a b) := by
  have h1 := putTextM_len [0] a
  simp at h1
  obtain ⟨K1, e1⟩ := Ev.get (impl_putText_ev [0] a (by simp) (by omega))
  obtain ⟨K2, e2⟩ := Ev.get (impl_putText_ev (putTextM [0] a) b (by omega) (by omega))
  refine ⟨K1 + K2, fun k hk => ?_⟩
  show impl_leafBytes.f k a b = _
  unfold impl_leafBytes.f
  rw [e1 _ (by omega), Option.bind_some, e2 _ (by omega), Option.bind_some]
  rfl
theorem impl_LeafOf_ev (a b : ByteArray) (ha : a.size ≤ 1000000000000) (hb : b.size ≤ 1000000000000) : Ev (fun k => impl_LeafOf.f k a b) (leafM a b) := by
  have hl := leafB_len a b
  obtain ⟨K1, e1⟩ := Ev.get (impl_leafBytes_ev a b ha hb)
  obtain ⟨K2, e2⟩ := Ev.get (impl_Digest_ev (leafB a b) (by omega))
  refine ⟨K1 + K2, fun k hk => ?_⟩
  show impl_LeafOf.f k a b = _
  unfold impl_LeafOf.f
  rw [e1 _ (by omega), Option.bind_some, e2 _ (by omega), Option.bind_some]
  rfl
/-! ### halves -/
/-- The greatest power of 2 times x that is less than n. -/
def halfG (x n : Nat) : Nat := if h : 0 < x ∧ 2 * x < n then halfG (2 * x) n else x
termination_by n - x
def halfM (n : Nat) : Nat := halfG 1 n
theorem halfG_lt : ∀ (d x n : Nat), n - x = d → 0 < x → x < n → halfG x n < n ∧ x ≤ halfG x n := by
  intro d
  induction d using Nat.strongRecOn with
  | _ d ih =>
    intro x n hd hx hn
    rw [halfG]
    by_cases h : 0 < x ∧ 2 * x < n
    · rw [dif_pos h]
      have := ih (n - 2 * x) (by omega) (2 * x) n rfl (by omega) h.2
      omega
    · rw [dif_neg h]
      omega
theorem halfM_lt {n : Nat} (h : 2 ≤ n) : halfM n < n ∧ 1 ≤ halfM n := halfG_lt _ 1 n rfl (by omega) (by omega)
theorem spec_l4Half_l0 : ∀ (d x n : Nat), n - x = d → 0 < x → x ≤ n → n ≤ 1000000000000 → Ev (fun k => spec_l4Half.l0 k (n : Int) (x : Int)) (halfG x n : Int) := by
  intro d
  induction d using Nat.strongRecOn with
  | _ d ih =>
    intro x n hd hx hn hb
    rw [halfG]
    have e : wrap64 (2 * (x : Int)) = ((2 * x : Nat) : Int) := by rw [w64 (by omega) (by omega)]; omega
    by_cases h : 0 < x ∧ 2 * x < n
    · rw [dif_pos h]
      refine Ev.up (ih (n - 2 * x) (by omega) (2 * x) n rfl (by omega) (by omega) hb) (fun k hk => ?_)
      simp only [spec_l4Half.l0]
      rw [e, if_pos (by omega)]
      exact hk
    · rw [dif_neg h]
      refine Ev.up (Ev.now _) (fun k _ => ?_)
      simp only [spec_l4Half.l0]
      rw [e, if_neg (by omega)]
theorem spec_l4Half_ev (n : Nat) (h : 1 ≤ n) (hb : n ≤ 1000000000000) : Ev (fun k => spec_l4Half.f k (n : Int)) (halfM n : Int) :=
  (spec_l4Half_l0 _ 1 n rfl (by omega) h hb).congr (fun k => rfl)
theorem impl_half_l0 : ∀ (d x n : Nat), n - x = d → 0 < x → x ≤ n → n ≤ 1000000000000 → Ev (fun k => impl_half.l0 k (n : Int) (x : Int)) (halfG x n : Int) := by
  intro d
  induction d using Nat.strongRecOn with
  | _ d ih =>
    intro x n hd hx hn hb
    rw [halfG]
    have e : wrap64 (2 * (x : Int)) = ((2 * x : Nat) : Int) := by rw [w64 (by omega) (by omega)]; omega
    have e' : wrap64 ((x : Int) * 2) = ((2 * x : Nat) : Int) := by rw [w64 (by omega) (by omega)]; omega
    by_cases h : 0 < x ∧ 2 * x < n
    · rw [dif_pos h]
      refine Ev.up (ih (n - 2 * x) (by omega) (2 * x) n rfl (by omega) (by omega) hb) (fun k hk => ?_)
      simp only [impl_half.l0]
      rw [e, e', if_pos (by omega)]
      exact hk
    · rw [dif_neg h]
      refine Ev.up (Ev.now _) (fun k _ => ?_)
      simp only [impl_half.l0]
      rw [e, if_neg (by omega)]
theorem impl_half_ev (n : Nat) (h : 1 ≤ n) (hb : n ≤ 1000000000000) : Ev (fun k => impl_half.f k (n : Int)) (halfM n : Int) :=
  (impl_half_l0 _ 1 n rfl (by omega) h hb).congr (fun k => rfl)
/-! ### trees -/
/-- No key and no value is great. -/
def Few (l : List S39) : Prop := ∀ p ∈ l, p.f0.size ≤ 1000000000000 ∧ p.f1.size ≤ 1000000000000
theorem Few.take {l : List S39} (h : Few l) (n : Nat) : Few (l.take n) := fun p hp => h p (List.mem_of_mem_take hp)
theorem Few.drop {l : List S39} (h : Few l) (n : Nat) : Few (l.drop n) := fun p hp => h p (List.mem_of_mem_drop hp)
def innerM (l : List S39) : ByteArray :=
  if h : 2 ≤ l.length then nodeM (innerM (l.take (halfM l.length))) (innerM (l.drop (halfM l.length)))
  else match l with
    | [] => digM []
    | p :: _ => leafM p.f0 p.f1
termination_by l.length
decreasing_by
  · have := halfM_lt h
    rw [List.length_take]
    omega
  · have := halfM_lt h
    rw [List.length_drop]
    omega
theorem innerM_nil : innerM [] = digM [] := by rw [innerM]; rfl
theorem innerM_one (p : S39) : innerM [p] = leafM p.f0 p.f1 := by rw [innerM]; rfl
theorem innerM_two (l : List S39) (h : 2 ≤ l.length) : innerM l = nodeM (innerM (l.take (halfM l.length))) (innerM (l.drop (halfM l.length))) := by
  rw [innerM, dif_pos h]
theorem innerM_size (l : List S39) : (innerM l).size = 32 := by
  by_cases h : 2 ≤ l.length
  · rw [innerM_two l h]
    exact nodeM_size _ _
  · match l, h with
    | [], _ => rw [innerM_nil]; exact digM_size _
    | [p], _ => rw [innerM_one]; exact leafM_size _ _
    | _ :: _ :: _, h => simp at h
def rootM (l : List S39) : ByteArray := digM (topB l.length (innerM l))
def rootOfM (l : List S39) : ByteArray := if l.length > 60 then ⟨#[]⟩ else rootM l
def innerOfM (l : List S39) : ByteArray := if l.length > 60 then ⟨#[]⟩ else innerM l
def pathM (l : List S39) (i : Nat) : List ByteArray :=
  if h : 2 ≤ l.length then
    if i < halfM l.length then pathM (l.take (halfM l.length)) i ++ [innerM (l.drop (halfM l.length))]
    else pathM (l.drop (halfM l.length)) (i - halfM l.length) ++ [innerM (l.take (halfM l.length))]
  else []
termination_by l.length
decreasing_by
  · have := halfM_lt h
    rw [List.length_take]
    omega
  · have := halfM_lt h
    rw [List.length_drop]
    omega
theorem pathM_len : ∀ (n : Nat) (l : List S39) (i : Nat), l.length = n → (pathM l i).length ≤ n := by
  intro n
  induction n using Nat.strongRecOn with
  | _ n ih =>
    intro l i hl
    rw [pathM]
    by_cases h : 2 ≤ l.length
    · have hh := halfM_lt h
      rw [dif_pos h]
      by_cases hi : i < halfM l.length
      · rw [if_pos hi]
        have := ih (l.take (halfM l.length)).length (by rw [List.length_take]; omega) (l.take (halfM l.length)) i rfl
        simp only [List.length_append, List.length_cons, List.length_nil]
        rw [List.length_take] at this
        omega
      · rw [if_neg hi]
        have := ih (l.drop (halfM l.length)).length (by rw [List.length_drop]; omega) (l.drop (halfM l.length)) (i - halfM l.length) rfl
        simp only [List.length_append, List.length_cons, List.length_nil]
        rw [List.length_drop] at this
        omega
    · rw [dif_neg h]
      simp
def pathOfM (l : List S39) (i : Int) : List ByteArray := if l.length > 60 then [] else if 0 ≤ i ∧ i < l.length then pathM l i.toNat else []
theorem pathOfM_len (l : List S39) (i : Int) : (pathOfM l i).length ≤ l.length := by
  unfold pathOfM
  split
  · simp
  · split
    · exact pathM_len _ l _ rfl
    · simp
theorem spec_l4Inner_ev : ∀ (n : Nat) (l : List S39), l.length = n → n ≤ 1000000000000 → Few l → Ev (fun k => spec_l4Inner.f k l) (innerM l) := by
  intro n
  induction n using Nat.strongRecOn with
  | _ n ih =>
    intro l hl hn hf
    by_cases h : 2 ≤ l.length
    · have hh := halfM_lt h
      have l1 : (l.take (halfM l.length)).length = halfM l.length := by rw [List.length_take]; omega
      have l2 : (l.drop (halfM l.length)).length = l.length - halfM l.length := List.length_drop
      obtain ⟨K1, e1⟩ := Ev.get (spec_l4Half_ev l.length (by omega) (by omega))
      obtain ⟨K2, e2⟩ := Ev.get (ih _ (by omega) (l.take (halfM l.length)) l1 (by omega) (hf.take _))
      obtain ⟨K3, e3⟩ := Ev.get (ih _ (by omega) (l.drop (halfM l.length)) l2 (by omega) (hf.drop _))
      obtain ⟨K4, e4⟩ := Ev.get (spec_NodeOf_ev (innerM (l.take (halfM l.length))) (innerM (l.drop (halfM l.length))) (by rw [innerM_size]; omega) (by rw [innerM_size]; omega))
      refine ⟨K1 + K2 + K3 + K4 + 1, fun k hk => ?_⟩
      obtain ⟨k, rfl⟩ : ∃ m, k = m + 1 := ⟨k - 1, by omega⟩
      show spec_l4Inner.f (k + 1) l = _
      simp only [spec_l4Inner.f]
      rw [if_neg (by omega), if_neg (by omega), e1 _ (by omega), Option.bind_some, if_pos (by omega), if_pos (by omega), Int.toNat_natCast, e2 _ (by omega), Option.bind_some, e3 _ (by omega), Option.bind_some, e4 _ (by omega), Option.bind_some, ← innerM_two l h]
    · match l, h, hf with
      | [], _, _ =>
        rw [innerM_nil]
        refine Ev.up (spec_Digest_ev [] By.nil (by simp)) (fun k hk => ?_)
        simp only [spec_l4Inner.f]
        rw [if_pos (by simp), hk, Option.bind_some]
      | [p], _, hf =>
        have := hf p (by simp)
        rw [innerM_one]
        refine Ev.up (spec_LeafOf_ev p.f0 p.f1 this.1 this.2) (fun k hk => ?_)
        simp only [spec_l4Inner.f]
        have hp : rd_T39 [p] 0 = p := rfl
        rw [if_neg (by simp), if_pos (by simp), if_pos (by simp), hp, hk, Option.bind_some]
      | _ :: _ :: _, h, _ => simp at h
theorem impl_innerOf_ev : ∀ (n : Nat) (l : List S39), l.length = n → n ≤ 1000000000000 → Few l → Ev (fun k => impl_innerOf.f k l) (innerM l) := by
  intro n
  induction n using Nat.strongRecOn with
  | _ n ih =>
    intro l hl hn hf
    by_cases h : 2 ≤ l.length
    · have hh := halfM_lt h
      have l1 : (l.take (halfM l.length)).length = halfM l.length := by rw [List.length_take]; omega
      have l2 : (l.drop (halfM l.length)).length = l.length - halfM l.length := List.length_drop
      obtain ⟨K1, e1⟩ := Ev.get (impl_half_ev l.length (by omega) (by omega))
      obtain ⟨K2, e2⟩ := Ev.get (ih _ (by omega) (l.take (halfM l.length)) l1 (by omega) (hf.take _))
      obtain ⟨K3, e3⟩ := Ev.get (ih _ (by omega) (l.drop (halfM l.length)) l2 (by omega) (hf.drop _))
      obtain ⟨K4, e4⟩ := Ev.get (impl_NodeOf_ev (innerM (l.take (halfM l.length))) (innerM (l.drop (halfM l.length))) (by rw [innerM_size]; omega) (by rw [innerM_size]; omega))
      refine ⟨K1 + K2 + K3 + K4 + 1, fun k hk => ?_⟩
      obtain ⟨k, rfl⟩ : ∃ m, k = m + 1 := ⟨k - 1, by omega⟩
      show impl_innerOf.f (k + 1) l = _
      simp only [impl_innerOf.f]
      rw [if_neg (by omega), if_neg (by omega), e1 _ (by omega), Option.bind_some, if_pos (by omega), if_pos (by omega), Int.toNat_natCast, e2 _ (by omega), Option.bind_some, e3 _ (by omega), Option.bind_some, e4 _ (by omega), Option.bind_some, ← innerM_two l h]
    · match l, h, hf with
      | [], _, _ =>
        rw [innerM_nil]
        refine Ev.up (impl_Digest_ev [] (by simp)) (fun k hk => ?_)
        simp only [impl_innerOf.f]
        rw [if_pos (by simp), hk, Option.bind_some]
      | [p], _, hf =>
        have := hf p (by simp)
        rw [innerM_one]
        refine Ev.up (impl_LeafOf_ev p.f0 p.f1 this.1 this.2) (fun k hk => ?_)
        simp only [impl_innerOf.f]
        have hp : rd_T39 [p] 0 = p := rfl
        rw [if_neg (by simp), if_pos (by simp), if_pos (by simp), hp, hk, Option.bind_some]
      | _ :: _ :: _, h, _ => simp at h
theorem spec_l4Path_ev : ∀ (n : Nat) (l : List S39) (i : Nat), l.length = n → n ≤ 1000000 → i < n → Few l → Ev (fun k => spec_l4Path.f k l (i : Int)) (pathM l i) := by
  intro n
  induction n using Nat.strongRecOn with
  | _ n ih =>
    intro l i hl hn hi hf
    rw [pathM]
    by_cases h : 2 ≤ l.length
    · have hh := halfM_lt h
      have l1 : (l.take (halfM l.length)).length = halfM l.length := by rw [List.length_take]; omega
      have l2 : (l.drop (halfM l.length)).length = l.length - halfM l.length := List.length_drop
      obtain ⟨K1, e1⟩ := Ev.get (spec_l4Half_ev l.length (by omega) (by omega))
      rw [dif_pos h]
      by_cases hi2 : i < halfM l.length
      · rw [if_pos hi2]
        have hp := pathM_len _ (l.take (halfM l.length)) i rfl
        obtain ⟨K2, e2⟩ := Ev.get (ih _ (by omega) (l.take (halfM l.length)) i l1 (by omega) hi2 (hf.take _))
        obtain ⟨K3, e3⟩ := Ev.get (spec_l4Inner_ev _ (l.drop (halfM l.length)) rfl (by omega) (hf.drop _))
        refine ⟨K1 + K2 + K3 + 1, fun k hk => ?_⟩
        obtain ⟨k, rfl⟩ : ∃ m, k = m + 1 := ⟨k - 1, by omega⟩
        show spec_l4Path.f (k + 1) l _ = _
        simp only [spec_l4Path.f]
        rw [if_neg (by omega), e1 _ (by omega), Option.bind_some, if_pos (by omega), if_pos (by omega), if_pos (by omega), Int.toNat_natCast, e2 _ (by omega), Option.bind_some, e3 _ (by omega), Option.bind_some, if_pos (by omega)]
      · rw [if_neg hi2]
        have hp := pathM_len _ (l.drop (halfM l.length)) (i - halfM l.length) rfl
        obtain ⟨K2, e2⟩ := Ev.get (ih _ (by omega) (l.drop (halfM l.length)) (i - halfM l.length) l2 (by omega) (by omega) (hf.drop _))
        obtain ⟨K3, e3⟩ := Ev.get (spec_l4Inner_ev _ (l.take (halfM l.length)) rfl (by omega) (hf.take _))
        refine ⟨K1 + K2 + K3 + 1, fun k hk => ?_⟩
        obtain ⟨k, rfl⟩ : ∃ m, k = m + 1 := ⟨k - 1, by omega⟩
        show spec_l4Path.f (k + 1) l _ = _
        simp only [spec_l4Path.f]
        have ew : wrap64 ((i : Int) - (halfM l.length : Int)) = ((i - halfM l.length : Nat) : Int) := by rw [w64 (by omega) (by omega)]; omega
        rw [if_neg (by omega), e1 _ (by omega), Option.bind_some, if_neg (by omega), if_pos (by omega), if_pos (by omega), Int.toNat_natCast, ew, e2 _ (by omega), Option.bind_some, e3 _ (by omega), Option.bind_some, if_pos (by omega)]
    · rw [dif_neg h]
      refine Ev.up (Ev.now _) (fun k _ => ?_)
      simp only [spec_l4Path.f]
      rw [if_pos (by omega)]
theorem impl_pathOf_ev : ∀ (n : Nat) (l : List S39) (i : Nat), l.length = n → n ≤ 1000000 → i < n → Few l → Ev (fun k => impl_pathOf.f k l (i : Int)) (pathM l i) := by
  intro n
  induction n using Nat.strongRecOn with
  | _ n ih =>
    intro l i hl hn hi hf
    rw [pathM]
    by_cases h : 2 ≤ l.length
    · have hh := halfM_lt h
      have l1 : (l.take (halfM l.length)).length = halfM l.length := by rw [List.length_take]; omega
      have l2 : (l.drop (halfM l.length)).length = l.length - halfM l.length := List.length_drop
      obtain ⟨K1, e1⟩ := Ev.get (impl_half_ev l.length (by omega) (by omega))
      rw [dif_pos h]
      by_cases hi2 : i < halfM l.length
      · rw [if_pos hi2]
        have hp := pathM_len _ (l.take (halfM l.length)) i rfl
        obtain ⟨K2, e2⟩ := Ev.get (ih _ (by omega) (l.take (halfM l.length)) i l1 (by omega) hi2 (hf.take _))
        obtain ⟨K3, e3⟩ := Ev.get (impl_innerOf_ev _ (l.drop (halfM l.length)) rfl (by omega) (hf.drop _))
        refine ⟨K1 + K2 + K3 + 1, fun k hk => ?_⟩
        obtain ⟨k, rfl⟩ : ∃ m, k = m + 1 := ⟨k - 1, by omega⟩
        show impl_pathOf.f (k + 1) l _ = _
        simp only [impl_pathOf.f]
        rw [if_neg (by omega), e1 _ (by omega), Option.bind_some, if_pos (by omega), if_pos (by omega), if_pos (by omega), Int.toNat_natCast, e2 _ (by omega), Option.bind_some, e3 _ (by omega), Option.bind_some, if_pos (by omega)]
      · rw [if_neg hi2]
        have hp := pathM_len _ (l.drop (halfM l.length)) (i - halfM l.length) rfl
        obtain ⟨K2, e2⟩ := Ev.get (ih _ (by omega) (l.drop (halfM l.length)) (i - halfM l.length) l2 (by omega) (by omega) (hf.drop _))
        obtain ⟨K3, e3⟩ := Ev.get (impl_innerOf_ev _ (l.take (halfM l.length)) rfl (by omega) (hf.take _))
        refine ⟨K1 + K2 + K3 + 1, fun k hk => ?_⟩
        obtain ⟨k, rfl⟩ : ∃ m, k = m + 1 := ⟨k - 1, by omega⟩
        show impl_pathOf.f (k + 1) l _ = _
        simp only [impl_pathOf.f]
        have ew : wrap64 ((i : Int) - (halfM l.length : Int)) = ((i - halfM l.length : Nat) : Int) := by rw [w64 (by omega) (by omega)]; omega
        rw [if_neg (by omega), e1 _ (by omega), Option.bind_some, if_neg (by omega), if_pos (by omega), if_pos (by omega), Int.toNat_natCast, ew, e2 _ (by omega), Option.bind_some, e3 _ (by omega), Option.bind_some, if_pos (by omega)]
    · rw [dif_neg h]
      refine Ev.up (Ev.now _) (fun k _ => ?_)
      simp only [impl_pathOf.f]
      rw [if_pos (by omega)]
end Go.Proofs.Ytbelaenekbflfaa.P
/- The readers of numbers and texts: the program's and the reference's answer what the model answers. No condition but bounds on lengths. -/
namespace Go.Proofs.Ytbelaenekbflfaa.P
open Go.RowKit Go.Proofs.YtbelaenekbflfaaW.PrintWords Go.Proofs.YtbelaenekbflfaaW.PrintLast Go.Proofs.YtbelaenekbflfaaW.PrintMore
set_option linter.unusedVariables false
set_option linter.unusedSimpArgs false
theorem pow2_128 (i : Nat) : (2 : Int) ^ (7 * i) = 128 ^ i := by
  rw [Int.pow_mul]
  rfl
/-- One group laid behind the others. -/
theorem or_step (n x : Int) (i : Nat) (hi : i < 5) (hn : 0 ≤ n) (hn2 : n < 128 ^ i) (hx : 0 ≤ x) (hx2 : x < 256) :
    Go.bits .or .i64 n (shl .i64 (Go.bits .and .i64 x 127) (IntKind.u64.wrap (wrap64 (7 * (i : Int))))) = n + x % 128 * 128 ^ i := by
  obtain ⟨hp1, hp2⟩ := pow128 i hi
  rw [w64 (by omega) (by omega), i64_and127, IntKind.wrap_u64, show (7 * (i : Int)) % 18446744073709551616 = ((7 * i : Nat) : Int) by omega]
  unfold shl
  rw [Int.toNat_natCast, Nat.min_eq_left (by simp only [IntKind.bits]; omega), pow2_128]
  have hm0 : 0 ≤ x % 128 * 128 ^ i := Int.mul_nonneg (by omega) (by omega)
  have hm1 : x % 128 * 128 ^ i ≤ 127 * 128 ^ i := Int.mul_le_mul_of_nonneg_right (by omega) (by omega)
  rw [i64_wrap_small (n := x % 128 * 128 ^ i) hm0 (by omega)]
  obtain ⟨a, rfl⟩ := Int.eq_ofNat_of_zero_le hn
  obtain ⟨c, hc⟩ := Int.eq_ofNat_of_zero_le (show 0 ≤ x % 128 by omega)
  rw [hc]
  have e : ((c : Int) * 128 ^ i) = ((c * 2 ^ (7 * i) : Nat) : Int) := by
    rw [Nat.pow_mul]
    simp
  have ha : a < 2 ^ (7 * i) := by
    have h1 : ((a : Nat) : Int) < ((2 ^ (7 * i) : Nat) : Int) := by
      have h2 : ((2 ^ (7 * i) : Nat) : Int) = 128 ^ i := by rw [Nat.pow_mul]; simp
      rw [h2]
      exact hn2
    exact_mod_cast h1
  rw [hc, e] at hm1
  rw [e, i64_or_nat a (c * 2 ^ (7 * i)) (by omega) (by omega), Nat.or_comm, nat_join (7 * i) (c * 2 ^ (7 * i)) a (by simp) ha]
  omega
theorem rd_small {b : List Int} (hb : By b) (p : Int) : wrap64 (rd b p) = rd b p := by
  have := hb.rd p
  exact w64 (by omega) (by omega)
end Go.Proofs.Ytbelaenekbflfaa.P
/- Rows of pairs, of orders, of texts: what the program's functions over them answer, and the reference's. No condition but bounds on lengths. -/
namespace Go.Proofs.Ytbelaenekbflfaa.P
open Go.RowKit Go.Proofs.YtbelaenekbflfaaW.PrintWords Go.Proofs.YtbelaenekbflfaaW.PrintLast Go.Proofs.YtbelaenekbflfaaW.PrintMore
set_option linter.unusedVariables false
set_option linter.unusedSimpArgs false
theorem filt_step {α : Type} (p : α → Bool) (l : List α) (i : Nat) (h : i < l.length) : (l.take (i + 1)).filter p = if p l[i] then (l.take i).filter p ++ [l[i]] else (l.take i).filter p := by
  rw [← List.take_append_getElem h, List.filter_append]
  by_cases c : p l[i] = true
  · simp [c]
  · simp [c]
theorem filt_le {α : Type} (p : α → Bool) (l : List α) (i : Nat) : ((l.take i).filter p).length ≤ l.length :=
  Nat.le_trans (List.length_filter_le _ _) (by rw [List.length_take]; omega)
/-- Whether a pair's key lies between two. -/
def btwB (a b : ByteArray) (p : S39) : Bool := !(Op.bytesLess p.f0.toList a.toList) && (decide (b.toList = []) || Op.bytesLess p.f0.toList b.toList)
theorem spec_l3In_eq (p : S39) (a b : ByteArray) : spec_l3In.f p.f0 a b = some (btwB a b p) := by
  unfold spec_l3In.f btwB
  by_cases c : Op.bytesLess p.f0.toList a.toList = true
  · simp [c]
  · by_cases c2 : b.toList = []
    · simp [c, c2]
    · simp [c, c2]
theorem impl_isBetween_eq (p : S39) (a b : ByteArray) : impl_isBetween.f p.f0 a b = some (btwB a b p) := by
  unfold impl_isBetween.f btwB
  by_cases c : Op.bytesLess p.f0.toList a.toList = true
  · simp [c]
  · by_cases c2 : b.toList = []
    · simp [c, c2]
    · simp [c, c2]
end Go.Proofs.Ytbelaenekbflfaa.P
/- Rows of pairs in order: what the rules say of each, and how the pairs between two keys part. No condition but bounds on lengths. -/
namespace Go.Proofs.Ytbelaenekbflfaa.P
open Go.RowKit Go.Proofs.YtbelaenekbflfaaW.PrintWords Go.Proofs.YtbelaenekbflfaaW.PrintLast Go.Proofs.YtbelaenekbflfaaW.PrintMore
set_option linter.unusedVariables false
set_option linter.unusedSimpArgs false
theorem less_irrefl : ∀ x : List UInt8, Op.bytesLess x x = false
  | [] => by simp [Op.bytesLess]
  | a :: x => by
    have h1 : ¬ a < a := fun q => by have := UInt8.lt_iff_toNat_lt.mp q; omega
    simp [Op.bytesLess, h1, less_irrefl x]
theorem less_trans : ∀ {x y z : List UInt8}, Op.bytesLess x y = true → Op.bytesLess y z = true → Op.bytesLess x z = true
  | _, _, [], _, h => by simp [Op.bytesLess] at h
  | _, [], _ :: _, h, _ => by simp [Op.bytesLess] at h
  | [], _ :: _, _ :: _, _, _ => by simp [Op.bytesLess]
  | a :: x, b :: y, c :: z, h, k => by
    simp only [Op.bytesLess, Bool.or_eq_true, Bool.and_eq_true, decide_eq_true_eq, beq_iff_eq] at h k ⊢
    have lt : ∀ p q : UInt8, p < q ↔ p.toNat < q.toNat := fun p q => UInt8.lt_iff_toNat_lt
    rcases h with h | ⟨rfl, h⟩
    · rcases k with k | ⟨rfl, k⟩
      · left; rw [lt] at h k ⊢; omega
      · left; exact h
    · rcases k with k | ⟨rfl, k⟩
      · left; exact k
      · right; exact ⟨rfl, less_trans h k⟩
theorem less_or {x y : List UInt8} (h : ¬ Op.bytesLess y x = true) : Op.bytesLess x y = true ∨ x = y := by
  have e := bytesLess_turn x y
  have hf : Op.bytesLess y x = false := by simpa using h
  rw [hf] at e
  simpa using e
/-- Not below the first: not below what is no greater. -/
theorem not_less_le {k f t : List UInt8} (hft : ¬ Op.bytesLess t f = true) (h : ¬ Op.bytesLess k t = true) : ¬ Op.bytesLess k f = true := fun hk => by
  rcases less_or hft with h1 | h1
  · exact h (less_trans hk h1)
  · exact h (h1 ▸ hk)
theorem filter_part {α : Type} (p q r : α → Bool) (l : List α) (h : ∀ x ∈ l, r x = (p x || q x) ∧ ¬ (p x = true ∧ q x = true)) : (l.filter r).length = (l.filter p).length + (l.filter q).length := by
  induction l with
  | nil => rfl
  | cons x l ih =>
    have ih := ih (fun y hy => h y (List.mem_cons_of_mem _ hy))
    obtain ⟨h1, h2⟩ := h x List.mem_cons_self
    cases hp : p x <;> cases hq : q x
    · simp [List.filter_cons, h1, hp, hq, ih]
    · simp [List.filter_cons, h1, hp, hq, ih]; omega
    · simp [List.filter_cons, h1, hp, hq, ih]; omega
    · exact absurd ⟨hp, hq⟩ h2
theorem filter_sorted {α : Type} (R : α → α → Prop) (p q r : α → Bool) : ∀ l : List α, l.Pairwise R → (∀ x ∈ l, r x = (p x || q x) ∧ ¬ (p x = true ∧ q x = true)) → (∀ x ∈ l, ∀ y ∈ l, R x y → q x = true → q y = true) → l.filter r = l.filter p ++ l.filter q := by
  intro l
  induction l with
  | nil => intro _ _ _; rfl
  | cons x l ih =>
    intro hs h hq
    have ih := ih (List.Pairwise.of_cons hs) (fun y hy => h y (List.mem_cons_of_mem _ hy)) (fun y hy z hz => hq y (List.mem_cons_of_mem _ hy) z (List.mem_cons_of_mem _ hz))
    obtain ⟨h1, h2⟩ := h x List.mem_cons_self
    cases hpx : p x <;> cases hqx : q x
    · simp [List.filter_cons, h1, hpx, hqx, ih]
    · have hn : l.filter p = [] := by
        rw [List.filter_eq_nil_iff]
        intro y hy hpy
        have h3 := hq x List.mem_cons_self y (List.mem_cons_of_mem _ hy) (List.rel_of_pairwise_cons hs hy) hqx
        exact (h y (List.mem_cons_of_mem _ hy)).2 ⟨hpy, h3⟩
      simp [List.filter_cons, h1, hpx, hqx, ih, hn]
    · simp [List.filter_cons, h1, hpx, hqx, ih]
    · exact absurd ⟨hpx, hqx⟩ h2
theorem pokM_all (l : List S39) : ∀ d i : Nat, pokM l d i = true → ∀ j : Nat, i ≤ j → j < i + d →
    pairOkM (rd_T39 l j).f0 (rd_T39 l j).f1 = true ∧ ((j : Int) > 0 → Op.bytesLess (rd_T39 l ((j : Int) - 1)).f0.toList (rd_T39 l j).f0.toList = true) := by
  intro d
  induction d with
  | zero => intro i _ j h1 h2; omega
  | succ d ih =>
    intro i h j h1 h2
    rw [pokM] at h
    split at h
    · rename_i c
      split at h
      · rename_i c2
        split at h
        · rename_i c3
          rcases Nat.lt_or_ge i j with hij | hij
          · exact ih (i + 1) h j (by omega) (by omega)
          · obtain rfl : j = i := by omega
            exact ⟨c, fun _ => c3⟩
        · cases h
      · rename_i c2
        rcases Nat.lt_or_ge i j with hij | hij
        · exact ih (i + 1) h j (by omega) (by omega)
        · obtain rfl : j = i := by omega
          exact ⟨c, fun h => absurd h c2⟩
    · cases h
theorem pokM_pairwise (l : List S39) (h : pokM l l.length 0 = true) : l.Pairwise (fun x y => Op.bytesLess x.f0.toList y.f0.toList = true) := by
  have hc : ∀ j : Nat, (hj : j + 1 < l.length) → Op.bytesLess (l[j]'(by omega)).f0.toList l[j + 1].f0.toList = true := by
    intro j hj
    have h1 := (pokM_all l l.length 0 h (j + 1) (by omega) (by omega)).2 (by omega)
    rw [show ((j + 1 : Nat) : Int) - 1 = (j : Int) by omega, rd_39_nat l j (by omega), rd_39_nat l (j + 1) hj] at h1
    exact h1
  rw [List.pairwise_iff_getElem]
  intro i j hi hj hij
  obtain ⟨d, rfl⟩ : ∃ d, j = i + d + 1 := ⟨j - i - 1, by omega⟩
  induction d with
  | zero => exact hc i hj
  | succ d ih => exact less_trans (ih (by omega) (by omega)) (hc (i + d + 1) hj)
theorem btw_part {f t : ByteArray} (hft : ¬ Op.bytesLess t.toList f.toList = true) (ht : ¬ t.toList = []) (x : S39) :
    btwB f ⟨#[]⟩ x = (btwB f t x || btwB t ⟨#[]⟩ x) ∧ ¬ (btwB f t x = true ∧ btwB t ⟨#[]⟩ x = true) := by
  have he : (⟨#[]⟩ : ByteArray).toList = [] := by simp [ByteArray.toList_eq]
  unfold btwB
  rw [he]
  have h := @not_less_le x.f0.toList f.toList t.toList hft
  cases h1 : Op.bytesLess x.f0.toList f.toList <;> cases h2 : Op.bytesLess x.f0.toList t.toList
  · simp [ht]
  · simp [ht]
  · exact absurd h1 (h (by simp [h2]))
  · simp [ht]
theorem btw_up {t : ByteArray} {x y : S39} (hxy : Op.bytesLess x.f0.toList y.f0.toList = true) (h : btwB t ⟨#[]⟩ x = true) : btwB t ⟨#[]⟩ y = true := by
  have he : (⟨#[]⟩ : ByteArray).toList = [] := by simp [ByteArray.toList_eq]
  unfold btwB at h ⊢
  rw [he] at h ⊢
  simp at h ⊢
  cases h1 : Op.bytesLess y.f0.toList t.toList
  · rfl
  · rw [less_trans hxy h1] at h; cases h
theorem btw_all (x : S39) : btwB ⟨#[]⟩ ⟨#[]⟩ x = true := by
  have he : (⟨#[]⟩ : ByteArray).toList = [] := by simp [ByteArray.toList_eq]
  have hl : ∀ l : List UInt8, Op.bytesLess l [] = false := fun l => by cases l <;> simp [Op.bytesLess]
  unfold btwB
  rw [he, hl]
  rfl
theorem btw_nil {f t : ByteArray} (ht : t.toList = []) (x : S39) : btwB f t x = btwB f ⟨#[]⟩ x := by
  have he : (⟨#[]⟩ : ByteArray).toList = [] := by simp [ByteArray.toList_eq]
  unfold btwB
  rw [ht, he]
end Go.Proofs.Ytbelaenekbflfaa.P
/- The way up from a pair to a root: the program's and the reference's answer what the model answers. No condition but bounds on lengths. -/
namespace Go.Proofs.Ytbelaenekbflfaa.P
open Go.RowKit Go.Proofs.YtbelaenekbflfaaW.PrintWords Go.Proofs.YtbelaenekbflfaaW.PrintLast Go.Proofs.YtbelaenekbflfaaW.PrintMore
set_option linter.unusedVariables false
set_option linter.unusedSimpArgs false
theorem bytesOf_strOfNums {l : List Int} (h : By l) : bytesOf (strOfNums l) = l := by
  unfold bytesOf strOfNums
  simp only [List.map_map]
  conv => rhs; rw [← List.map_id l]
  apply List.map_congr_left
  intro x hx
  have := h x hx
  simp only [Function.comp_apply, id_eq]
  rw [UInt8.toNat_ofNat_of_lt' (by simp [UInt8.size]; omega)]
  omega
/-- The last of what is hashed. -/
def lastL (l : List (List Int)) : List Int := l.getLast?.getD []
def lastS (l : List ByteArray) : ByteArray := l.getLast?.getD ByteArray.empty
def climbR (leaf : List Int) (n i : Nat) (path : List ByteArray) : List (List Int) × Bool :=
  if h : 2 ≤ n then
    if path.length = 0 then ([], false)
    else if i < halfM n then
      if (climbR leaf (halfM n) i (path.take (path.length - 1))).2 = true then
        ((climbR leaf (halfM n) i (path.take (path.length - 1))).1 ++ [nodeB (digM (lastL (climbR leaf (halfM n) i (path.take (path.length - 1))).1)) (lastS path)], true)
      else ([], false)
    else
      if (climbR leaf (n - halfM n) (i - halfM n) (path.take (path.length - 1))).2 = true then
        ((climbR leaf (n - halfM n) (i - halfM n) (path.take (path.length - 1))).1 ++ [nodeB (lastS path) (digM (lastL (climbR leaf (n - halfM n) (i - halfM n) (path.take (path.length - 1))).1))], true)
      else ([], false)
  else ([leaf], path.length == 0)
termination_by n
decreasing_by all_goals (have := halfM_lt h; omega)
def wayR (leaf : List Int) (n i : Nat) (path : List ByteArray) : List (List Int) × Bool :=
  if (climbR leaf n i path).2 = true then ((climbR leaf n i path).1 ++ [topB n (digM (lastL (climbR leaf n i path).1))], true) else ([], false)
def checkM (leaf : List Int) (i n : Int) (path : List ByteArray) (root : ByteArray) : Bool :=
  if (1 ≤ n ∧ n ≤ 60) ∧ 0 ≤ i ∧ i < n then
    (if (wayR leaf n.toNat i.toNat path).2 = true then (digM (lastL (wayR leaf n.toNat i.toNat path).1)).toList == root.toList else false)
  else false
/-- No text is great. -/
def FewS (l : List ByteArray) : Prop := ∀ s ∈ l, s.size ≤ 10000000
/-- What is hashed: there is some, of bytes, not great. -/
def Ways (l : List (List Int)) : Prop := ∀ x ∈ l, By x ∧ x.length ≤ 100000000
theorem FewS.take {l : List ByteArray} (h : FewS l) (n : Nat) : FewS (l.take n) := fun p hp => h p (List.mem_of_mem_take hp)
theorem lastS_few {l : List ByteArray} (h : FewS l) : (lastS l).size ≤ 10000000 := by
  unfold lastS
  cases hl : l.getLast? with
  | none => show ByteArray.empty.size ≤ _; simp
  | some s => exact h s (List.mem_of_getLast? hl)
theorem lastL_ways {l : List (List Int)} (h : Ways l) : By (lastL l) ∧ (lastL l).length ≤ 100000000 := by
  unfold lastL
  cases hl : l.getLast? with
  | none => exact ⟨By.nil, by simp⟩
  | some s => exact h s (List.mem_of_getLast? hl)
theorem Ways.snoc {l : List (List Int)} (h : Ways l) {x : List Int} (hb : By x) (hl : x.length ≤ 100000000) : Ways (l ++ [x]) := fun y hy => by
  rcases List.mem_append.1 hy with h1 | h1
  · exact h y h1
  · rw [List.mem_singleton.1 h1]; exact ⟨hb, hl⟩
theorem climbR_ok {leaf : List Int} (hb : By leaf) (hl : leaf.length ≤ 100000000) : ∀ (n i : Nat) (path : List ByteArray), FewS path →
    Ways (climbR leaf n i path).1 ∧ (climbR leaf n i path).1.length ≤ n + 1 ∧ ((climbR leaf n i path).2 = true → 0 < (climbR leaf n i path).1.length) := by
  intro n
  induction n using Nat.strongRecOn with
  | _ n ih =>
    intro i path hp
    rw [climbR]
    by_cases h : 2 ≤ n
    · have hh := halfM_lt h
      rw [dif_pos h]
      by_cases h0 : path.length = 0
      · rw [if_pos h0]
        exact ⟨fun _ hx => absurd hx (List.not_mem_nil), by simp, fun e => by simp at e⟩
      · rw [if_neg h0]
        have hs := lastS_few hp
        by_cases hi : i < halfM n
        · rw [if_pos hi]
          obtain ⟨i1, i2, i3⟩ := ih (halfM n) (by omega) i _ (hp.take (path.length - 1))
          generalize climbR leaf (halfM n) i (path.take (path.length - 1)) = r at *
          by_cases hr : r.2 = true
          · rw [if_pos hr]
            have hd := digM_size (lastL r.1)
            exact ⟨i1.snoc (nodeB_by _ _) (by rw [nodeB_length]; omega), by simp; omega, fun _ => by simp⟩
          · rw [if_neg hr]
            exact ⟨fun _ hx => absurd hx (List.not_mem_nil), by simp, fun e => by simp at e⟩
        · rw [if_neg hi]
          obtain ⟨i1, i2, i3⟩ := ih (n - halfM n) (by omega) (i - halfM n) _ (hp.take (path.length - 1))
          generalize climbR leaf (n - halfM n) (i - halfM n) (path.take (path.length - 1)) = r at *
          by_cases hr : r.2 = true
          · rw [if_pos hr]
            have hd := digM_size (lastL r.1)
            exact ⟨i1.snoc (nodeB_by _ _) (by rw [nodeB_length]; omega), by simp; omega, fun _ => by simp⟩
          · rw [if_neg hr]
            exact ⟨fun _ hx => absurd hx (List.not_mem_nil), by simp, fun e => by simp at e⟩
    · rw [dif_neg h]
      exact ⟨fun x hx => by rw [List.mem_singleton.1 hx]; exact ⟨hb, hl⟩, by simp, fun _ => by simp⟩
theorem rd_last (path : List ByteArray) (h : 0 < path.length) : rdOf ByteArray.empty path (wrap64 ((path.length : Int) - 1)) = lastS path ∨ ¬ path.length ≤ 1000000000000 := by
  by_cases hb : path.length ≤ 1000000000000
  · left
    rw [w64 (by omega) (by omega), show (path.length : Int) - 1 = ((path.length - 1 : Nat) : Int) by omega, rdOf_nat path _ (by omega)]
    unfold lastS
    rw [List.getLast?_eq_getElem?, List.getElem?_eq_getElem (by omega)]
    rfl
  · exact .inr hb
theorem rd_last' (path : List ByteArray) (h : 0 < path.length) (hb : path.length ≤ 1000000000000) : rdOf ByteArray.empty path ((path.length - 1 : Nat) : Int) = lastS path := by
  rw [rdOf_nat path _ (by omega)]
  unfold lastS
  rw [List.getLast?_eq_getElem?, List.getElem?_eq_getElem (by omega)]
  rfl
theorem lastS_map {l : List (List Int)} (h : 0 < l.length) : lastS (l.map strOfNums) = strOfNums (lastL l) := by
  unfold lastS lastL
  rw [List.getLast?_map]
  cases hl : l.getLast? with
  | none => rw [List.getLast?_eq_none_iff] at hl; subst hl; simp at h
  | some s => rfl
theorem rdL2_last (l : List (List Int)) (h : 0 < l.length) : rd_L7 l ((l.length - 1 : Nat) : Int) = lastL l := by
  unfold rd_L7 lastL
  rw [List.getLast?_eq_getElem?]
  simp [List.getD_eq_getElem?_getD]
theorem wayR_ok {leaf : List Int} (hb : By leaf) (hl : leaf.length ≤ 100000000) (n i : Nat) (path : List ByteArray) (hp : FewS path) :
    Ways (wayR leaf n i path).1 ∧ (wayR leaf n i path).1.length ≤ n + 2 ∧ ((wayR leaf n i path).2 = true → 0 < (wayR leaf n i path).1.length) := by
  obtain ⟨j1, j2, j3⟩ := climbR_ok hb hl n i path hp
  unfold wayR
  generalize climbR leaf n i path = r at *
  have hd := digM_size (lastL r.1)
  have ht := topB_len n (digM (lastL r.1))
  by_cases hrt : r.2 = true
  · rw [if_pos hrt]
    exact ⟨j1.snoc (topB_by _ _) (by omega), by simp; omega, fun _ => by simp⟩
  · rw [if_neg hrt]
    exact ⟨fun _ hx => absurd hx (List.not_mem_nil), by simp, fun e => by simp at e⟩
theorem l1In_eqP (a b c : Int) : spec_l1In.f a b c = some (decide (b ≤ a ∧ a ≤ c)) := by
  unfold spec_l1In.f
  by_cases h : a ≥ b
  · rw [if_pos h]
    congr 1
    by_cases h2 : a ≤ c <;> simp [h2, show b ≤ a from h]
  · rw [if_neg h]
    congr 1
    simp [show ¬ b ≤ a by omega]
end Go.Proofs.Ytbelaenekbflfaa.P
/- What is drawn from bytes: that drawing ends, and the bounds of what is drawn. No condition but bounds on lengths. -/
namespace Go.Proofs.Ytbelaenekbflfaa.P
open Go.RowKit Go.Proofs.YtbelaenekbflfaaW.PrintWords Go.Proofs.YtbelaenekbflfaaW.PrintLast Go.Proofs.YtbelaenekbflfaaW.PrintMore
set_option linter.unusedVariables false
set_option linter.unusedSimpArgs false
theorem and255 (x : Int) : 0 ≤ Go.bits .and .i64 x 255 ∧ Go.bits .and .i64 x 255 < 256 := by
  have h : ((BitVec.ofInt 64 x) &&& (BitVec.ofInt 64 255)).toNat ≤ 255 := by
    rw [BitVec.toNat_and]
    exact Nat.le_trans Nat.and_le_right (by decide)
  have e : Go.bits .and .i64 x 255 = (((BitVec.ofInt 64 x) &&& (BitVec.ofInt 64 255)).toNat : Int) := by
    show IntKind.i64.wrap (((BitVec.ofInt 64 x) &&& (BitVec.ofInt 64 255)).toNat : Int) = _
    exact i64_wrap_small (by omega) (by omega)
  rw [e]
  omega
/-- A drawing's state: its bytes and its place in them. -/
def St (s : List Int) (p : Int) : Prop := s.length ≤ 1000000000 ∧ 0 ≤ p ∧ p ≤ s.length
theorem rd_mem {l : List Int} {i : Int} (h0 : 0 ≤ i) (h1 : i < l.length) : rd l i ∈ l := by
  obtain ⟨n, rfl⟩ := Int.eq_ofNat_of_zero_le h0
  rw [rd_nat l n (by omega)]
  exact List.getElem_mem _
theorem rdOf_mem {l : List ByteArray} {i : Int} (h0 : 0 ≤ i) (h1 : i < l.length) : rdOf ByteArray.empty l i ∈ l := by
  obtain ⟨n, rfl⟩ := Int.eq_ofNat_of_zero_le h0
  have h : n < l.length := by omega
  have e : rdOf ByteArray.empty l (n : Int) = l[n] := by
    unfold rdOf
    simp [List.getD_eq_getElem?_getD, h]
  rw [e]
  exact List.getElem_mem _
end Go.Proofs.Ytbelaenekbflfaa.P
/- Clashes: the program's and the reference's answer what the model answers. No condition but bounds on lengths. -/
namespace Go.Proofs.Ytbelaenekbflfaa.P
open Go.RowKit Go.Proofs.YtbelaenekbflfaaW.PrintWords Go.Proofs.YtbelaenekbflfaaW.PrintLast Go.Proofs.YtbelaenekbflfaaW.PrintMore
set_option linter.unusedVariables false
set_option linter.unusedSimpArgs false
def clashM (a b : ByteArray) (k : Int) : Bool :=
  if a.toList = b.toList then false else if 0 ≤ k ∧ k ≤ 32 then ((digM (bytesOf a)).extract 0 k.toNat).toList == ((digM (bytesOf b)).extract 0 k.toNat).toList else false
theorem clashM_comm (a b : ByteArray) (k : Int) : clashM a b k = clashM b a k := by
  unfold clashM
  by_cases h : a.toList = b.toList
  · rw [if_pos h, if_pos h.symm]
  · rw [if_neg h, if_neg (fun e : b.toList = a.toList => h e.symm)]
    by_cases c : 0 ≤ k ∧ k ≤ 32
    · rw [if_pos c, if_pos c]; exact Bool.beq_comm
    · rw [if_neg c, if_neg c]
theorem clashM_self (a : ByteArray) (k : Int) : clashM a a k = false := by
  unfold clashM
  rw [if_pos rfl]
theorem clashM_less {a b : ByteArray} {k : Int} (h : clashM a b k = true) (h0 : k ≠ 0) : clashM a b (k - 1) = true := by
  unfold clashM at h ⊢
  by_cases c : a.toList = b.toList
  · rw [if_pos c] at h; cases h
  · rw [if_neg c] at h ⊢
    by_cases c2 : 0 ≤ k ∧ k ≤ 32
    · rw [if_pos c2, beq_iff_eq, ByteArray.toList_eq, ByteArray.toList_eq] at h
      rw [if_pos (by omega), beq_iff_eq, ByteArray.toList_eq, ByteArray.toList_eq]
      simp only [ByteArray.data_extract, Array.toList_extract, List.extract_eq_take_drop, Nat.sub_zero, List.drop_zero] at h ⊢
      have e := congrArg (List.take (k - 1).toNat) h
      rw [List.take_take, List.take_take, Nat.min_eq_left (by omega)] at e
      exact e
    · rw [if_neg c2] at h; cases h
end Go.Proofs.Ytbelaenekbflfaa.P
/- PartAt: the program's and the reference's answer what the model answers. No condition but bounds on lengths. -/
namespace Go.Proofs.Ytbelaenekbflfaa.P
open Go.RowKit Go.Proofs.YtbelaenekbflfaaW.PrintWords Go.Proofs.YtbelaenekbflfaaW.PrintLast Go.Proofs.YtbelaenekbflfaaW.PrintMore
set_option linter.unusedVariables false
set_option linter.unusedSimpArgs false
/-- How long the way from the i-th of n is. -/
def depthM (n i : Nat) : Nat := if h : 2 ≤ n then (if i < halfM n then depthM (halfM n) i else depthM (n - halfM n) (i - halfM n)) + 1 else 0
termination_by n
decreasing_by all_goals (have := halfM_lt h; omega)
theorem climbR_depth (leaf : List Int) : ∀ (n i : Nat) (path : List ByteArray), ((climbR leaf n i path).2 = true ↔ path.length = depthM n i) ∧ ((climbR leaf n i path).2 = true → (climbR leaf n i path).1.length = depthM n i + 1) := by
  intro n
  induction n using Nat.strongRecOn with
  | _ n ih =>
    intro i path
    rw [climbR, depthM]
    by_cases h : 2 ≤ n
    · have hh := halfM_lt h
      rw [dif_pos h, dif_pos h]
      by_cases h0 : path.length = 0
      · rw [if_pos h0]
        simp [h0]
      · rw [if_neg h0]
        have ht : (path.take (path.length - 1)).length = path.length - 1 := by rw [List.length_take]; omega
        by_cases hi : i < halfM n
        · rw [if_pos hi, if_pos hi]
          obtain ⟨i1, i2⟩ := ih (halfM n) (by omega) i (path.take (path.length - 1))
          rw [ht] at i1
          generalize climbR leaf (halfM n) i (path.take (path.length - 1)) = r at *
          by_cases hr : r.2 = true
          · rw [if_pos hr]
            have := i1.1 hr
            have := i2 hr
            simp
            omega
          · rw [if_neg hr]
            have : ¬ path.length - 1 = depthM (halfM n) i := fun e => hr (i1.2 e)
            simp
            omega
        · rw [if_neg hi, if_neg hi]
          obtain ⟨i1, i2⟩ := ih (n - halfM n) (by omega) (i - halfM n) (path.take (path.length - 1))
          rw [ht] at i1
          generalize climbR leaf (n - halfM n) (i - halfM n) (path.take (path.length - 1)) = r at *
          by_cases hr : r.2 = true
          · rw [if_pos hr]
            have := i1.1 hr
            have := i2 hr
            simp
            omega
          · rw [if_neg hr]
            have : ¬ path.length - 1 = depthM (n - halfM n) (i - halfM n) := fun e => hr (i1.2 e)
            simp
            omega
    · rw [dif_neg h, dif_neg h]
      simp
theorem wayR_depth (leaf : List Int) (n i : Nat) (path : List ByteArray) : ((wayR leaf n i path).2 = true ↔ path.length = depthM n i) ∧ ((wayR leaf n i path).2 = true → (wayR leaf n i path).1.length = depthM n i + 2) := by
  obtain ⟨i1, i2⟩ := climbR_depth leaf n i path
  unfold wayR
  generalize climbR leaf n i path = r at *
  by_cases hr : r.2 = true
  · rw [if_pos hr]
    have := i1.1 hr
    have := i2 hr
    simp
    omega
  · rw [if_neg hr]
    have : ¬ path.length = depthM n i := fun e => hr (i1.2 e)
    simp
    omega
theorem pathM_depth : ∀ (n : Nat) (l : List S39) (i : Nat), l.length = n → (pathM l i).length = depthM n i := by
  intro n
  induction n using Nat.strongRecOn with
  | _ n ih =>
    intro l i hl
    rw [pathM, depthM]
    by_cases h : 2 ≤ n
    · have hh := halfM_lt h
      rw [dif_pos h, dif_pos (by omega), hl]
      by_cases hi : i < halfM n
      · rw [if_pos hi, if_pos hi, List.length_append, ih (halfM n) (by omega) _ i (by rw [List.length_take]; omega)]
        rfl
      · rw [if_neg hi, if_neg hi, List.length_append, ih (n - halfM n) (by omega) _ (i - halfM n) (by rw [List.length_drop]; omega)]
        rfl
    · rw [dif_neg h, dif_neg (by omega)]
      rfl
theorem pathM_few : ∀ (n : Nat) (l : List S39) (i : Nat), l.length = n → FewS (pathM l i) := by
  intro n
  induction n using Nat.strongRecOn with
  | _ n ih =>
    intro l i hl
    rw [pathM]
    by_cases h : 2 ≤ l.length
    · have hh := halfM_lt h
      rw [dif_pos h]
      by_cases hi : i < halfM l.length
      · rw [if_pos hi]
        intro s hs
        rcases List.mem_append.1 hs with h1 | h1
        · exact ih (halfM n) (by rw [← hl]; omega) _ i (by rw [List.length_take, ← hl]; omega) s h1
        · rw [List.mem_singleton.1 h1, innerM_size]; omega
      · rw [if_neg hi]
        intro s hs
        rcases List.mem_append.1 hs with h1 | h1
        · exact ih (n - halfM n) (by rw [← hl]; omega) _ _ (by rw [List.length_drop, ← hl]) s h1
        · rw [List.mem_singleton.1 h1, innerM_size]; omega
    · rw [dif_neg h]
      intro s hs
      exact absurd hs List.not_mem_nil
/-- The last of the way beside what the root of l is of. -/
def tailM (l : List S39) (A : List (List Int)) : ByteArray × ByteArray × Bool :=
  (strOfNums (lastL A), strOfNums (topB l.length (innerM l)), clashM (strOfNums (lastL A)) (strOfNums (topB l.length (innerM l))) 32)
def scanT (l : List S39) (A B : List (List Int)) : Nat → Nat → ByteArray × ByteArray × Bool
  | 0, _ => tailM l A
  | d + 1, k => if clashM (strOfNums (A.getD k [])) (strOfNums (B.getD k [])) 32 = true then (strOfNums (A.getD k []), strOfNums (B.getD k []), true) else scanT l A B d (k + 1)
/-- The way of the i-th itself. -/
def ownWay (l : List S39) (i : Int) (n : Nat) : List (List Int) × Bool := wayR (leafB (rd_T39 l i).f0 (rd_T39 l i).f1) n i.toNat (pathM l i.toNat)
def partM (l : List S39) (a b : ByteArray) (i n : Int) (path : List ByteArray) : ByteArray × ByteArray × Bool :=
  if ((1 ≤ n ∧ n ≤ 60) ∧ 0 ≤ i ∧ i < n) ∧ pokM l l.length 0 = true then
    if (wayR (leafB a b) n.toNat i.toNat path).2 = true then
      if (l.length : Int) = n then scanT l (wayR (leafB a b) n.toNat i.toNat path).1 (ownWay l i n.toNat).1 (wayR (leafB a b) n.toNat i.toNat path).1.length 0
      else tailM l (wayR (leafB a b) n.toNat i.toNat path).1
    else (⟨#[]⟩, ⟨#[]⟩, false)
  else (⟨#[]⟩, ⟨#[]⟩, false)
/-- No key and no value is great. -/
def FewP (l : List S39) : Prop := ∀ p ∈ l, p.f0.size ≤ 10000000 ∧ p.f1.size ≤ 10000000
theorem FewP.few {l : List S39} (h : FewP l) : Few l := fun p hp => ⟨by have := (h p hp).1; omega, by have := (h p hp).2; omega⟩
theorem FewP.rd {l : List S39} (h : FewP l) {i : Int} (h0 : 0 ≤ i) (h1 : i < l.length) : (rd_T39 l i).f0.size ≤ 10000000 ∧ (rd_T39 l i).f1.size ≤ 10000000 := by
  have : rd_T39 l i ∈ l := by
    unfold rd_T39
    rw [List.getD_eq_getElem?_getD, List.getElem?_eq_getElem (by omega)]
    exact List.getElem_mem _
  exact h _ this
theorem getD_ways {l : List (List Int)} (h : Ways l) {k : Nat} (hk : k < l.length) : By (l.getD k []) ∧ (l.getD k []).length ≤ 100000000 := by
  have : l.getD k [] ∈ l := by
    rw [List.getD_eq_getElem?_getD, List.getElem?_eq_getElem hk]
    exact List.getElem_mem _
  exact h _ this
theorem tailM_top (l : List S39) : (topB l.length (innerM l)).length ≤ 38 := by
  have h1 := topB_len l.length (innerM l)
  have h2 := innerM_size l
  omega
end Go.Proofs.Ytbelaenekbflfaa.P
/- What a way to a root shows: the pair itself, or a clash. No condition but bounds on lengths. -/
namespace Go.Proofs.Ytbelaenekbflfaa.P
open Go.RowKit Go.Proofs.YtbelaenekbflfaaW.PrintWords Go.Proofs.YtbelaenekbflfaaW.PrintLast Go.Proofs.YtbelaenekbflfaaW.PrintMore
set_option linter.unusedVariables false
set_option linter.unusedSimpArgs false
theorem encN_inj : ∀ (m n : Nat) (x y : List Int), encN m ++ x = encN n ++ y → m = n ∧ x = y := by
  intro m
  induction m using Nat.strongRecOn with
  | _ m ih =>
    intro n x y h
    by_cases hm : 127 < m
    · by_cases hn : 127 < n
      · rw [encN_big hm, encN_big hn, List.cons_append, List.cons_append] at h
        obtain ⟨h1, h2⟩ := List.cons.inj h
        obtain ⟨e, ex⟩ := ih (m / 128) (by omega) (n / 128) x y h2
        exact ⟨by omega, ex⟩
      · rw [encN_big hm, encN_small (n := n) (by omega), List.cons_append, List.cons_append] at h
        have h1 := (List.cons.inj h).1
        omega
    · by_cases hn : 127 < n
      · rw [encN_small (n := m) (by omega), encN_big hn, List.cons_append, List.cons_append] at h
        have h1 := (List.cons.inj h).1
        omega
      · rw [encN_small (n := m) (by omega), encN_small (n := n) (by omega), List.cons_append, List.cons_append] at h
        obtain ⟨h1, h2⟩ := List.cons.inj h
        exact ⟨by omega, by simpa using h2⟩
theorem clampN_id {n : Int} (h0 : 0 ≤ n) (h1 : n ≤ 1000000000) : clampN n = n.toNat := by
  unfold clampN
  rw [if_neg (by omega), if_neg (by omega)]
theorem bytesOf_inj {s t : ByteArray} (h : bytesOf s = bytesOf t) : s = t := by
  have key : ∀ u : ByteArray, strOfNums (bytesOf u) = u := by
    intro u
    unfold strOfNums bytesOf
    rw [List.map_map]
    have : (u.data.toList.map ((fun x : Int => UInt8.ofNat x.toNat) ∘ fun b : UInt8 => (b.toNat : Int))) = u.data.toList := by
      conv => rhs; rw [← List.map_id u.data.toList]
      apply List.map_congr_left
      intro x _
      simp
    first | (rw [this]; rfl) | (simp [this]) | (show ByteArray.mk (List.toArray _) = _; rw [this])
  rw [← key s, h, key t]
theorem topB_inj {m n : Int} {s t : ByteArray} (hm : 0 ≤ m ∧ m ≤ 1000000000) (hn : 0 ≤ n ∧ n ≤ 1000000000) (h : topB m s = topB n t) : m = n ∧ s = t := by
  unfold topB putNumM at h
  rw [List.append_assoc, List.append_assoc] at h
  obtain ⟨e, ex⟩ := encN_inj _ _ _ _ (List.append_cancel_left h)
  rw [clampN_id hm.1 hm.2, clampN_id hn.1 hn.2] at e
  exact ⟨by omega, bytesOf_inj ex⟩
theorem leafB_inj {a b c d : ByteArray} (ha : a.size ≤ 1000000000) (hb : b.size ≤ 1000000000) (hc : c.size ≤ 1000000000) (hd : d.size ≤ 1000000000) (h : leafB a b = leafB c d) : a = c ∧ b = d := by
  unfold leafB putTextM putNumM at h
  simp only [List.append_assoc] at h
  obtain ⟨e, ex⟩ := encN_inj _ _ _ _ (List.append_cancel_left h)
  rw [clampN_id (by omega) (by omega), clampN_id (by omega) (by omega)] at e
  obtain ⟨e1, e2⟩ := List.append_inj ex (by rw [bytesOf_length, bytesOf_length]; omega)
  obtain ⟨_, e3⟩ := encN_inj _ _ _ _ e2
  exact ⟨bytesOf_inj e1, bytesOf_inj e3⟩
theorem strOfNums_inj {A B : List Int} (hA : By A) (hB : By B) (h : strOfNums A = strOfNums B) : A = B := by
  rw [← bytesOf_strOfNums hA, h, bytesOf_strOfNums hB]
theorem toList_inj {a b : ByteArray} (h : a.toList = b.toList) : a = b := by
  rw [ByteArray.toList_eq, ByteArray.toList_eq] at h
  cases a with
  | mk x =>
    cases b with
    | mk y =>
      have : x = y := by simpa using h
      rw [this]
theorem noClash {A B : List Int} (hA : By A) (hB : By B) (h : clashM (strOfNums A) (strOfNums B) 32 = false) (hd : digM A = digM B) : A = B := by
  unfold clashM at h
  by_cases c : (strOfNums A).toList = (strOfNums B).toList
  · exact strOfNums_inj hA hB (toList_inj c)
  · rw [if_neg c, if_pos (by omega), bytesOf_strOfNums hA, bytesOf_strOfNums hB, hd] at h
    simp at h
theorem isClash {A B : List Int} (hA : By A) (hB : By B) (hn : A ≠ B) (hd : digM A = digM B) : clashM (strOfNums A) (strOfNums B) 32 = true := by
  cases h : clashM (strOfNums A) (strOfNums B) 32 with
  | true => rfl
  | false => exact absurd (noClash hA hB h hd) hn
theorem clash_dig {A B : List Int} (hA : By A) (hB : By B) (h : clashM (strOfNums A) (strOfNums B) 32 = true) : A ≠ B ∧ digM A = digM B := by
  unfold clashM at h
  by_cases c : (strOfNums A).toList = (strOfNums B).toList
  · rw [if_pos c] at h; cases h
  · rw [if_neg c, if_pos (by omega), bytesOf_strOfNums hA, bytesOf_strOfNums hB, beq_iff_eq] at h
    refine ⟨fun e => c (by rw [e]), toList_inj ?_⟩
    have key : ∀ X : List Int, ((digM X).extract 0 (32 : Int).toNat).toList = (digM X).toList := by
      intro X
      have hs : (digM X).data.toList.length = 32 := digM_size X
      rw [ByteArray.toList_eq, ByteArray.toList_eq]
      simp only [ByteArray.data_extract, Array.toList_extract, List.extract_eq_take_drop, Nat.sub_zero, List.drop_zero]
      exact List.take_of_length_le (by rw [hs]; decide)
    rw [key, key] at h
    exact h
theorem scanT_no {l : List S39} {A B : List (List Int)} : ∀ d k : Nat, (scanT l A B d k).2.2 = false →
    (∀ j, k ≤ j → j < k + d → clashM (strOfNums (A.getD j [])) (strOfNums (B.getD j [])) 32 = false) ∧ (tailM l A).2.2 = false := by
  intro d
  induction d with
  | zero => intro k h; exact ⟨fun j h1 h2 => by omega, h⟩
  | succ d ih =>
    intro k h
    unfold scanT at h
    by_cases c : clashM (strOfNums (A.getD k [])) (strOfNums (B.getD k [])) 32 = true
    · rw [if_pos c] at h; cases h
    · rw [if_neg c] at h
      obtain ⟨h1, h2⟩ := ih (k + 1) h
      refine ⟨fun j hj hj2 => ?_, h2⟩
      by_cases e : j = k
      · rw [e]; simpa using c
      · exact h1 j (by omega) (by omega)
theorem scanT_clash {l : List S39} {A B : List (List Int)} : ∀ d k : Nat, (scanT l A B d k).2.2 = true → clashM (scanT l A B d k).1 (scanT l A B d k).2.1 32 = true := by
  intro d
  induction d with
  | zero => intro k h; exact h
  | succ d ih =>
    intro k h
    unfold scanT at h ⊢
    by_cases c : clashM (strOfNums (A.getD k [])) (strOfNums (B.getD k [])) 32 = true
    · rw [if_pos c]; exact c
    · rw [if_neg c] at h ⊢
      exact ih (k + 1) h
theorem partM_clash {l : List S39} {a b : ByteArray} {i n : Int} {path : List ByteArray} (h : (partM l a b i n path).2.2 = true) : clashM (partM l a b i n path).1 (partM l a b i n path).2.1 32 = true := by
  unfold partM at h ⊢
  by_cases c1 : ((1 ≤ n ∧ n ≤ 60) ∧ 0 ≤ i ∧ i < n) ∧ pokM l l.length 0 = true
  · rw [if_pos c1] at h ⊢
    by_cases c2 : (wayR (leafB a b) n.toNat i.toNat path).2 = true
    · rw [if_pos c2] at h ⊢
      by_cases c3 : (l.length : Int) = n
      · rw [if_pos c3] at h ⊢; exact scanT_clash _ _ h
      · rw [if_neg c3] at h ⊢; exact h
    · rw [if_neg c2] at h; cases h
  · rw [if_neg c1] at h; cases h
theorem pokM_le60 {l : List S39} : ∀ d i : Nat, pokM l d i = true → l.length ≤ 60 := by
  intro d
  induction d with
  | zero => intro i h; unfold pokM at h; have := of_decide_eq_true h; omega
  | succ d ih =>
    intro i h
    unfold pokM at h
    split at h
    · split at h
      · split at h
        · exact ih _ h
        · cases h
      · exact ih _ h
    · cases h
theorem lastL_snoc (l : List (List Int)) (x : List Int) : lastL (l ++ [x]) = x := by
  unfold lastL
  rw [List.getLast?_append]
  rfl
theorem lastS_snoc (l : List ByteArray) (x : ByteArray) : lastS (l ++ [x]) = x := by
  unfold lastS
  rw [List.getLast?_append]
  rfl
theorem rdP_take (l : List S39) {k i : Nat} (h : i < k) : rd_T39 (l.take k) (i : Int) = rd_T39 l (i : Int) := by
  unfold rd_T39
  rw [List.getD_eq_getElem?_getD, List.getD_eq_getElem?_getD, Int.toNat_natCast, List.getElem?_take, if_pos h]
theorem rdP_drop (l : List S39) {k i : Nat} (h : k ≤ i) : rd_T39 (l.drop k) ((i - k : Nat) : Int) = rd_T39 l (i : Int) := by
  unfold rd_T39
  rw [List.getD_eq_getElem?_getD, List.getD_eq_getElem?_getD, Int.toNat_natCast, Int.toNat_natCast, List.getElem?_drop, show k + (i - k) = i by omega]
/-- The own way leads to the inner digest. -/
theorem climb_own : ∀ (n : Nat) (l : List S39) (i : Nat), l.length = n → i < n →
    digM (lastL (climbR (leafB (rd_T39 l (i : Int)).f0 (rd_T39 l (i : Int)).f1) n i (pathM l i)).1) = innerM l := by
  intro n
  induction n using Nat.strongRecOn with
  | _ n ih =>
    intro l i hl hi
    by_cases h : 2 ≤ n
    · have hh := halfM_lt h
      rw [climbR, dif_pos h, pathM, dif_pos (by omega), innerM_two l (by omega), hl]
      by_cases hi2 : i < halfM n
      · rw [if_pos hi2, if_pos hi2]
        have e1 : (pathM (l.take (halfM n)) i ++ [innerM (l.drop (halfM n))]).length = (pathM (l.take (halfM n)) i).length + 1 := by simp
        have e2 : (pathM (l.take (halfM n)) i ++ [innerM (l.drop (halfM n))]).take ((pathM (l.take (halfM n)) i).length + 1 - 1) = pathM (l.take (halfM n)) i := by simp
        have l1 : (l.take (halfM n)).length = halfM n := by rw [List.length_take]; omega
        have r1 := ih (halfM n) (by omega) (l.take (halfM n)) i l1 hi2
        rw [rdP_take l hi2] at r1
        rw [e1, if_neg (by omega), e2, if_pos ((climbR_depth _ _ _ _).1.2 (pathM_depth _ _ _ l1)), lastL_snoc, r1, lastS_snoc]
        rfl
      · rw [if_neg hi2, if_neg hi2]
        have e1 : (pathM (l.drop (halfM n)) (i - halfM n) ++ [innerM (l.take (halfM n))]).length = (pathM (l.drop (halfM n)) (i - halfM n)).length + 1 := by simp
        have e2 : (pathM (l.drop (halfM n)) (i - halfM n) ++ [innerM (l.take (halfM n))]).take ((pathM (l.drop (halfM n)) (i - halfM n)).length + 1 - 1) = pathM (l.drop (halfM n)) (i - halfM n) := by simp
        have l1 : (l.drop (halfM n)).length = n - halfM n := by rw [List.length_drop]; omega
        have r1 := ih (n - halfM n) (by omega) (l.drop (halfM n)) (i - halfM n) l1 (by omega)
        rw [rdP_drop l (by omega)] at r1
        rw [e1, if_neg (by omega), e2, if_pos ((climbR_depth _ _ _ _).1.2 (pathM_depth _ _ _ l1)), lastL_snoc, r1, lastS_snoc]
        rfl
    · match l, hl with
      | [], hl => simp at hl; omega
      | [p], hl =>
        have hi0 : i = 0 := by simp at hl; omega
        subst hi0
        rw [climbR, dif_neg h, innerM_one]
        rfl
      | _ :: _ :: _, hl => simp at hl; omega
theorem nodeB_left {a b c d : ByteArray} (ha : a.size = 32) (hc : c.size = 32) (h : nodeB a b = nodeB c d) : a = c := by
  unfold nodeB at h
  rw [List.append_assoc, List.append_assoc] at h
  exact bytesOf_inj (List.append_inj (List.append_cancel_left h) (by rw [bytesOf_length, bytesOf_length, ha, hc])).1
theorem nodeB_right {a b c d : ByteArray} (hb : b.size = 32) (hd : d.size = 32) (h : nodeB a b = nodeB c d) : b = d := by
  unfold nodeB at h
  exact bytesOf_inj (List.append_inj' h (by rw [bytesOf_length, bytesOf_length, hb, hd])).2
theorem getD_snoc_lt {l : List (List Int)} {x : List Int} {j : Nat} (h : j < l.length) : (l ++ [x]).getD j [] = l.getD j [] := by
  rw [List.getD_eq_getElem?_getD, List.getD_eq_getElem?_getD, List.getElem?_append_left h]
theorem getD_snoc {l : List (List Int)} {x : List Int} {n : Nat} (h : n = l.length) : (l ++ [x]).getD n [] = x := by
  rw [h, List.getD_eq_getElem?_getD, List.getElem?_append_right (Nat.le_refl _)]
  simp
/-- Two ways that lead to one digest, with no clash beside one another, come from one leaf. -/
theorem climb_sound (leaf leaf' : List Int) (hb : By leaf) (hb' : By leaf') : ∀ (n i : Nat) (path path' : List ByteArray), (climbR leaf n i path).2 = true → (climbR leaf' n i path').2 = true →
    digM (lastL (climbR leaf n i path).1) = digM (lastL (climbR leaf' n i path').1) →
    (∀ j, j < (climbR leaf n i path).1.length → clashM (strOfNums ((climbR leaf n i path).1.getD j [])) (strOfNums ((climbR leaf' n i path').1.getD j [])) 32 = false) → leaf = leaf' := by
  intro n
  induction n using Nat.strongRecOn with
  | _ n ih =>
    intro i path path' h1 h2 hd hc
    have d1 := (climbR_depth leaf n i path).2 h1
    have d2 := (climbR_depth leaf' n i path').2 h2
    rw [climbR] at h1 hd hc
    rw [climbR.eq_def leaf' n i path'] at h2 hd hc
    by_cases h : 2 ≤ n
    · have hh := halfM_lt h
      rw [dif_pos h] at h1 h2
      rw [dif_pos h, dif_pos h] at hd
      by_cases z1 : path.length = 0
      · rw [if_pos z1] at h1; cases h1
      by_cases z2 : path'.length = 0
      · rw [if_pos z2] at h2; cases h2
      rw [if_neg z1] at h1
      rw [if_neg z2] at h2
      rw [if_neg z1, if_neg z2] at hd
      by_cases hi : i < halfM n
      · rw [if_pos hi] at h1 h2
        rw [if_pos hi, if_pos hi] at hd
        have q1 := (climbR_depth leaf (halfM n) i (path.take (path.length - 1))).2
        have q2 := (climbR_depth leaf' (halfM n) i (path'.take (path'.length - 1))).2
        have I := ih (halfM n) (by omega) i (path.take (path.length - 1)) (path'.take (path'.length - 1))
        by_cases r1 : (climbR leaf (halfM n) i (path.take (path.length - 1))).2 = true
        · by_cases r2 : (climbR leaf' (halfM n) i (path'.take (path'.length - 1))).2 = true
          · rw [if_pos r1, if_pos r2, lastL_snoc, lastL_snoc] at hd
            have hc' : ∀ j, j < (climbR leaf (halfM n) i (path.take (path.length - 1))).1.length + 1 → clashM (strOfNums (((climbR leaf (halfM n) i (path.take (path.length - 1))).1 ++ [nodeB (digM (lastL (climbR leaf (halfM n) i (path.take (path.length - 1))).1)) (lastS path)]).getD j [])) (strOfNums (((climbR leaf' (halfM n) i (path'.take (path'.length - 1))).1 ++ [nodeB (digM (lastL (climbR leaf' (halfM n) i (path'.take (path'.length - 1))).1)) (lastS path')]).getD j [])) 32 = false := by
              intro j hj
              have := hc j (by rw [dif_pos h, if_neg z1, if_pos hi, if_pos r1]; simpa using hj)
              rw [dif_pos h, if_neg z1, if_pos hi, if_pos r1, dif_pos h, if_neg z2, if_pos hi, if_pos r2] at this
              exact this
            have q1 := q1 r1
            have q2 := q2 r2
            have hx := hc' (climbR leaf (halfM n) i (path.take (path.length - 1))).1.length (by omega)
            rw [getD_snoc rfl, getD_snoc (by omega)] at hx
            have he := noClash (nodeB_by _ _) (nodeB_by _ _) hx hd
            refine I r1 r2 (nodeB_left (digM_size _) (digM_size _) he) (fun j hj => ?_)
            have := hc' j (by omega)
            rw [getD_snoc_lt hj, getD_snoc_lt (by omega)] at this
            exact this
          · rw [if_neg r2] at h2; cases h2
        · rw [if_neg r1] at h1; cases h1
      · rw [if_neg hi] at h1 h2
        rw [if_neg hi, if_neg hi] at hd
        have q1 := (climbR_depth leaf (n - halfM n) (i - halfM n) (path.take (path.length - 1))).2
        have q2 := (climbR_depth leaf' (n - halfM n) (i - halfM n) (path'.take (path'.length - 1))).2
        have I := ih (n - halfM n) (by omega) (i - halfM n) (path.take (path.length - 1)) (path'.take (path'.length - 1))
        by_cases r1 : (climbR leaf (n - halfM n) (i - halfM n) (path.take (path.length - 1))).2 = true
        · by_cases r2 : (climbR leaf' (n - halfM n) (i - halfM n) (path'.take (path'.length - 1))).2 = true
          · rw [if_pos r1, if_pos r2, lastL_snoc, lastL_snoc] at hd
            have hc' : ∀ j, j < (climbR leaf (n - halfM n) (i - halfM n) (path.take (path.length - 1))).1.length + 1 → clashM (strOfNums (((climbR leaf (n - halfM n) (i - halfM n) (path.take (path.length - 1))).1 ++ [nodeB (lastS path) (digM (lastL (climbR leaf (n - halfM n) (i - halfM n) (path.take (path.length - 1))).1))]).getD j [])) (strOfNums (((climbR leaf' (n - halfM n) (i - halfM n) (path'.take (path'.length - 1))).1 ++ [nodeB (lastS path') (digM (lastL (climbR leaf' (n - halfM n) (i - halfM n) (path'.take (path'.length - 1))).1))]).getD j [])) 32 = false := by
              intro j hj
              have := hc j (by rw [dif_pos h, if_neg z1, if_neg hi, if_pos r1]; simpa using hj)
              rw [dif_pos h, if_neg z1, if_neg hi, if_pos r1, dif_pos h, if_neg z2, if_neg hi, if_pos r2] at this
              exact this
            have q1 := q1 r1
            have q2 := q2 r2
            have hx := hc' (climbR leaf (n - halfM n) (i - halfM n) (path.take (path.length - 1))).1.length (by omega)
            rw [getD_snoc rfl, getD_snoc (by omega)] at hx
            have he := noClash (nodeB_by _ _) (nodeB_by _ _) hx hd
            refine I r1 r2 (nodeB_right (digM_size _) (digM_size _) he) (fun j hj => ?_)
            have := hc' j (by omega)
            rw [getD_snoc_lt hj, getD_snoc_lt (by omega)] at this
            exact this
          · rw [if_neg r2] at h2; cases h2
        · rw [if_neg r1] at h1; cases h1
    · rw [dif_neg h, dif_neg h] at hd
      have hx := hc 0 (by rw [dif_neg h]; simp)
      rw [dif_neg h, dif_neg h] at hx
      exact noClash hb hb' hx hd
theorem rootOfM_60 {l : List S39} (h : l.length ≤ 60) : rootOfM l = digM (topB l.length (innerM l)) := by
  unfold rootOfM rootM
  rw [if_neg (by omega)]
/-- What is taken to be at a place of a root is there, or PartAt finds a clash. -/
theorem part_sound {l : List S39} (hf : FewP l) {a b : ByteArray} (ha : a.size ≤ 10000000) (hb : b.size ≤ 10000000) {i n : Int} {path : List ByteArray} (hk : pokM l l.length 0 = true)
    (hc : checkM (leafB a b) i n path (rootOfM l) = true) : (partM l a b i n path).2.2 = true ∨ (((l.length : Int) = n ∧ 0 ≤ i ∧ i < n) ∧ (rd_T39 l i).f0 = a ∧ (rd_T39 l i).f1 = b) := by
  cases hp : (partM l a b i n path).2.2 with
  | true => exact .inl rfl
  | false =>
    right
    have h60 := pokM_le60 _ _ hk
    unfold checkM at hc
    by_cases h : (1 ≤ n ∧ n ≤ 60) ∧ 0 ≤ i ∧ i < n
    · rw [if_pos h] at hc
      unfold partM at hp
      rw [if_pos ⟨h, hk⟩] at hp
      obtain ⟨m, rfl⟩ : ∃ m : Nat, n = (m : Int) := ⟨n.toNat, by omega⟩
      obtain ⟨j, rfl⟩ : ∃ j : Nat, i = (j : Int) := ⟨i.toNat, by omega⟩
      rw [Int.toNat_natCast, Int.toNat_natCast] at hc hp
      by_cases hr : (wayR (leafB a b) m j path).2 = true
      · rw [if_pos hr, rootOfM_60 h60] at hc
        rw [if_pos hr] at hp
        have hd : digM (lastL (wayR (leafB a b) m j path).1) = digM (topB l.length (innerM l)) := toList_inj (by simpa using hc)
        have hC : (climbR (leafB a b) m j path).2 = true := by
          unfold wayR at hr
          by_cases c : (climbR (leafB a b) m j path).2 = true
          · exact c
          · rw [if_neg c] at hr; cases hr
        have hw : (wayR (leafB a b) m j path).1 = (climbR (leafB a b) m j path).1 ++ [topB m (digM (lastL (climbR (leafB a b) m j path).1))] := by
          unfold wayR
          rw [if_pos hC]
        rw [hw, lastL_snoc] at hd
        have tl : (tailM l (wayR (leafB a b) m j path).1).2.2 = false → topB m (digM (lastL (climbR (leafB a b) m j path).1)) = topB l.length (innerM l) := by
          intro ht
          unfold tailM at ht
          rw [hw, lastL_snoc] at ht
          exact noClash (topB_by _ _) (topB_by _ _) ht hd
        by_cases hm : (l.length : Int) = (m : Int)
        · rw [if_pos hm] at hp
          have hml : l.length = m := by omega
          obtain ⟨s1, s2⟩ := scanT_no _ _ hp
          have hin := (topB_inj (by omega) (by omega) (tl s2)).2
          have hpd := pathM_depth _ l j hml
          have ho2 := (climbR_depth (leafB (rd_T39 l (j : Int)).f0 (rd_T39 l (j : Int)).f1) m j (pathM l j)).1.2 hpd
          have hol := (climbR_depth (leafB (rd_T39 l (j : Int)).f0 (rd_T39 l (j : Int)).f1) m j (pathM l j)).2 ho2
          have hcl := (climbR_depth (leafB a b) m j path).2 hC
          have how : (ownWay l (j : Int) m).1 = (climbR (leafB (rd_T39 l (j : Int)).f0 (rd_T39 l (j : Int)).f1) m j (pathM l j)).1 ++ [topB m (digM (lastL (climbR (leafB (rd_T39 l (j : Int)).f0 (rd_T39 l (j : Int)).f1) m j (pathM l j)).1))] := by
            unfold ownWay wayR
            rw [Int.toNat_natCast, if_pos ho2]
          have hfi := hf.rd (i := (j : Int)) (by omega) (by omega)
          have hown := climb_own m l j hml (by omega)
          have hleaf := climb_sound (leafB a b) (leafB (rd_T39 l (j : Int)).f0 (rd_T39 l (j : Int)).f1) (leafB_by _ _) (leafB_by _ _) m j path (pathM l j) hC ho2 (by rw [hin, hown]) (fun q hq => by
            have := s1 q (by omega) (by rw [hw, List.length_append]; omega)
            rw [hw, how, getD_snoc_lt hq, getD_snoc_lt (by omega)] at this
            exact this)
          obtain ⟨e1, e2⟩ := leafB_inj (by omega) (by omega) (by omega) (by omega) hleaf
          exact ⟨⟨hm, by omega, by omega⟩, e1.symm, e2.symm⟩
        · rw [if_neg hm] at hp
          have := (topB_inj (by omega) (by omega) (tl hp)).1
          omega
      · rw [if_neg hr] at hc; cases hc
    · rw [if_neg h] at hc; cases hc
end Go.Proofs.Ytbelaenekbflfaa.P
/- What is drawn as pairs: that drawing ends, and the bounds of what is drawn. No condition but bounds on lengths. -/
namespace Go.Proofs.Ytbelaenekbflfaa.P
open Go.RowKit Go.Proofs.YtbelaenekbflfaaW.PrintWords Go.Proofs.YtbelaenekbflfaaW.PrintLast Go.Proofs.YtbelaenekbflfaaW.PrintMore
set_option linter.unusedVariables false
set_option linter.unusedSimpArgs false
end Go.Proofs.Ytbelaenekbflfaa.P
/- Drawn pairs are right: keys that are words, in order. No condition but bounds on lengths. -/
namespace Go.Proofs.Ytbelaenekbflfaa.P
open Go.RowKit Go.Proofs.YtbelaenekbflfaaW.PrintWords Go.Proofs.YtbelaenekbflfaaW.PrintLast Go.Proofs.YtbelaenekbflfaaW.PrintMore
set_option linter.unusedVariables false
set_option linter.unusedSimpArgs false
/-- A key that is right, and comes ahead of "zz". -/
def KG (s : ByteArray) : Prop := keyOkM s = true ∧ Op.bytesLess s.toList (⟨#[122, 122]⟩ : ByteArray).toList = true
def PG (p : S39) : Prop := KG p.f0 ∧ p.f1.size ≤ 20
/-- Keys that rise, all right. -/
def GP (l : List S39) : Prop := l.Pairwise (fun x y => Op.bytesLess x.f0.toList y.f0.toList = true) ∧ ∀ p ∈ l, PG p
theorem GP.nil : GP [] := ⟨List.Pairwise.nil, fun _ h => absurd h List.not_mem_nil⟩
theorem rdP_get (l : List S39) {i : Nat} (h : i < l.length) : rd_T39 l (i : Int) = l[i] := by
  unfold rd_T39
  rw [List.getD_eq_getElem?_getD, Int.toNat_natCast, List.getElem?_eq_getElem h]
  rfl
theorem GP.less {l : List S39} (h : GP l) {i j : Nat} (hij : i < j) (hj : j < l.length) : Op.bytesLess (rd_T39 l (i : Int)).f0.toList (rd_T39 l (j : Int)).f0.toList = true := by
  rw [rdP_get l (by omega), rdP_get l hj]
  exact List.pairwise_iff_getElem.1 h.1 i j (by omega) hj hij
theorem GP.pok {l : List S39} (h : GP l) (h60 : l.length ≤ 60) : pokM l l.length 0 = true := by
  have key : ∀ d i : Nat, i + d = l.length → pokM l d i = true := by
    intro d
    induction d with
    | zero => intro i hi; unfold pokM; simp; omega
    | succ d ih =>
      intro i hi
      have hm : PG (rd_T39 l (i : Int)) := h.2 _ (by rw [rdP_get l (by omega)]; exact List.getElem_mem _)
      unfold pokM
      rw [if_pos (by unfold pairOkM; rw [hm.1.1]; simpa using hm.2)]
      by_cases h0 : (i : Int) > 0
      · rw [if_pos h0, show (i : Int) - 1 = ((i - 1 : Nat) : Int) by omega, if_pos (h.less (by omega) (by omega))]
        exact ih (i + 1) (by omega)
      · rw [if_neg h0]
        exact ih (i + 1) (by omega)
  exact key _ 0 (by omega)
theorem GP.set {l : List S39} (h : GP l) {i : Nat} (hi : i < l.length) {v : ByteArray} (hv : v.size ≤ 20) : GP (l.set i ⟨(rd_T39 l (i : Int)).f0, v⟩) := by
  have hk : ∀ j (hj : j < (l.set i ⟨(rd_T39 l (i : Int)).f0, v⟩).length), ((l.set i ⟨(rd_T39 l (i : Int)).f0, v⟩)[j]).f0 = (l[j]'(by simpa using hj)).f0 := by
    intro j hj
    rw [List.getElem_set]
    by_cases e : i = j
    · rw [if_pos e]
      subst e
      have := rdP_get l hi
      show (rd_T39 l (i : Int)).f0 = _
      exact congrArg S39.f0 this
    · rw [if_neg e]
  refine ⟨List.pairwise_iff_getElem.2 (fun a b ha hb hab => ?_), fun p hp => ?_⟩
  · rw [hk a ha, hk b hb]
    exact List.pairwise_iff_getElem.1 h.1 a b (by simpa using ha) (by simpa using hb) hab
  · rcases List.mem_or_eq_of_mem_set hp with h1 | h1
    · exact h.2 p h1
    · rw [h1]
      exact ⟨(h.2 _ (by rw [rdP_get l hi]; exact List.getElem_mem _ : rd_T39 l (i : Int) ∈ l)).1, hv⟩
theorem GP.ins {l : List S39} (h : GP l) {i : Nat} (hi : i ≤ l.length) {a b : ByteArray} (ha : KG a) (hb : b.size ≤ 20)
    (h1 : ∀ j : Nat, j < i → Op.bytesLess (rd_T39 l (j : Int)).f0.toList a.toList = true) (h2 : i < l.length → Op.bytesLess a.toList (rd_T39 l (i : Int)).f0.toList = true) :
    GP (l.take i ++ [(⟨a, b⟩ : S39)] ++ l.drop i) := by
  have t1 : ∀ p ∈ l.take i, Op.bytesLess p.f0.toList a.toList = true := by
    intro p hp
    obtain ⟨j, hj, rfl⟩ := List.getElem_of_mem hp
    have hj' : j < i := by rw [List.length_take] at hj; omega
    have := h1 j hj'
    rw [rdP_get l (by omega)] at this
    rw [List.getElem_take]
    exact this
  have t2 : ∀ p ∈ l.drop i, Op.bytesLess a.toList p.f0.toList = true := by
    intro p hp
    obtain ⟨j, hj, rfl⟩ := List.getElem_of_mem hp
    rw [List.length_drop] at hj
    have hil : i < l.length := by omega
    have h3 := h2 hil
    rw [List.getElem_drop]
    by_cases e : j = 0
    · subst e
      rw [rdP_get l hil] at h3
      exact h3
    · have h4 := h.less (i := i) (j := i + j) (by omega) (by omega)
      have h5 := less_trans h3 h4
      rw [rdP_get l (by omega)] at h5
      exact h5
  refine ⟨?_, fun p hp => ?_⟩
  · rw [List.append_assoc, List.pairwise_append]
    refine ⟨h.1.sublist (List.take_sublist _ _), ?_, fun x hx y hy => ?_⟩
    · rw [List.singleton_append, List.pairwise_cons]
      exact ⟨t2, h.1.sublist (List.drop_sublist _ _)⟩
    · rcases List.mem_append.1 hy with h3 | h3
      · rw [List.mem_singleton.1 h3]; exact t1 x hx
      · exact less_trans (t1 x hx) (t2 y h3)
  · rcases List.mem_append.1 hp with h3 | h3
    · rcases List.mem_append.1 h3 with h4 | h4
      · exact h.2 p (List.mem_of_mem_take h4)
      · rw [List.mem_singleton.1 h4]; exact ⟨ha, hb⟩
    · exact h.2 p (List.mem_of_mem_drop h3)
end Go.Proofs.Ytbelaenekbflfaa.P
/- ProveBetween: the program's and the reference's answer what the model answers; how many items there are. No condition but bounds on lengths. -/
namespace Go.Proofs.Ytbelaenekbflfaa.P
open Go.RowKit Go.Proofs.YtbelaenekbflfaaW.PrintWords Go.Proofs.YtbelaenekbflfaaW.PrintLast Go.Proofs.YtbelaenekbflfaaW.PrintMore
set_option linter.unusedVariables false
set_option linter.unusedSimpArgs false
/-- The first from i on, of d, at which P does not hold. -/
def whileM (P : Nat → Bool) : Nat → Nat → Nat
  | 0, i => i
  | d + 1, i => if P i = true then whileM P d (i + 1) else i
theorem whileM_spec (P : Nat → Bool) : ∀ d i : Nat, i ≤ whileM P d i ∧ whileM P d i ≤ i + d ∧ (∀ j, i ≤ j → j < whileM P d i → P j = true) ∧ (whileM P d i < i + d → P (whileM P d i) = false) := by
  intro d
  induction d with
  | zero => intro i; unfold whileM; exact ⟨by omega, by omega, fun j h1 h2 => by omega, fun h => by omega⟩
  | succ d ih =>
    intro i
    unfold whileM
    by_cases c : P i = true
    · rw [if_pos c]
      obtain ⟨h1, h2, h3, h4⟩ := ih (i + 1)
      refine ⟨by omega, by omega, fun j hj hj2 => ?_, fun h => h4 (by omega)⟩
      by_cases e : j = i
      · rw [e]; exact c
      · exact h3 j (by omega) hj2
    · rw [if_neg c]
      exact ⟨by omega, by omega, fun j h1 h2 => by omega, fun _ => by simpa using c⟩
def lessP (l : List S39) (lo : ByteArray) (i : Nat) : Bool := Op.bytesLess (rd_T39 l (i : Int)).f0.toList lo.toList
def btwP (l : List S39) (lo hi : ByteArray) (i : Nat) : Bool := btwB lo hi (rd_T39 l (i : Int))
def fromM (l : List S39) (lo : ByteArray) : Nat := whileM (lessP l lo) l.length 0
def toM (l : List S39) (lo hi : ByteArray) : Nat := whileM (btwP l lo hi) (l.length - fromM l lo) (fromM l lo)
theorem fromM_le (l : List S39) (lo : ByteArray) : fromM l lo ≤ l.length := by
  have := (whileM_spec (lessP l lo) l.length 0).2.1
  unfold fromM
  omega
theorem toM_le (l : List S39) (lo hi : ByteArray) : fromM l lo ≤ toM l lo hi ∧ toM l lo hi ≤ l.length := by
  have h1 := fromM_le l lo
  have h2 := whileM_spec (btwP l lo hi) (l.length - fromM l lo) (fromM l lo)
  unfold toM
  omega
def itemM (l : List S39) (i : Nat) : S79 := ⟨⟨(rd_T39 l (i : Int)).f0, (rd_T39 l (i : Int)).f1⟩, pathM l i⟩
def itemsM (l : List S39) : Nat → Nat → List S79
  | 0, _ => []
  | d + 1, i => itemM l i :: itemsM l d (i + 1)
theorem itemsM_len (l : List S39) : ∀ d i : Nat, (itemsM l d i).length = d := by
  intro d
  induction d with
  | zero => intro i; rfl
  | succ d ih => intro i; unfold itemsM; rw [List.length_cons, ih]
theorem itemsM_get (l : List S39) : ∀ d i j : Nat, j < d → (itemsM l d i)[j]? = some (itemM l (i + j)) := by
  intro d
  induction d with
  | zero => intro i j h; omega
  | succ d ih =>
    intro i j h
    unfold itemsM
    cases j with
    | zero => rfl
    | succ j => rw [List.getElem?_cons_succ, ih (i + 1) j (by omega), show i + 1 + j = i + (j + 1) by omega]
def begM (l : List S39) (lo : ByteArray) : Nat := fromM l lo - 1
def endM (l : List S39) (lo hi : ByteArray) : Nat := min (toM l lo hi + 1) l.length
def proveM (l : List S39) (lo hi : ByteArray) : Int × Int × List S79 :=
  if pokM l l.length 0 = true then ((l.length : Int), (if begM l lo < endM l lo hi then (begM l lo : Int) else 0), itemsM l (endM l lo hi - begM l lo) (begM l lo)) else (0, 0, [])
/-- What the loops of the reference's lead to. -/
def resM (l : List S39) (x t : Nat) : Int × Int × List S79 :=
  ((l.length : Int), (if x - 1 < min (t + 1) l.length then ((x - 1 : Nat) : Int) else 0), itemsM l (min (t + 1) l.length - (x - 1)) (x - 1))
theorem impl_Prove_l2 (l : List S39) (hl : l.length ≤ 1000) (hf : Few l) (a b : Nat) (hb : b ≤ l.length) (N F : Int) : ∀ (d i : Nat) (acc : List S79), i + d = b ∨ (d = 0 ∧ b ≤ i) → i ≤ 2000 → acc.length ≤ i →
    Ev (fun k => impl_ProveBetween.l2 k l (a : Int) (b : Int) (i : Int) N F acc) (if 0 < (acc ++ itemsM l d i).length then (N, (a : Int), acc ++ itemsM l d i) else (N, F, acc ++ itemsM l d i)) := by
  intro d
  induction d with
  | zero =>
    intro i acc hi hi2 hacc
    refine Ev.up (Ev.now _) (fun k _ => ?_)
    simp only [impl_ProveBetween.l2]
    rw [if_neg (by omega)]
    unfold itemsM
    rw [List.append_nil]
    by_cases c : 0 < acc.length
    · rw [if_pos c, if_pos (by omega)]
    · rw [if_neg c, if_neg (by omega)]
  | succ d ih =>
    intro i acc hi hi2 hacc
    obtain ⟨K1, e1⟩ := Ev.get (impl_pathOf_ev _ l i rfl (by omega) (by omega) hf)
    obtain ⟨K2, e2⟩ := Ev.get (ih (i + 1) (acc ++ [itemM l i]) (by omega) (by omega) (by simp; omega))
    refine ⟨K1 + K2 + 1, fun k hk => ?_⟩
    obtain ⟨k, rfl⟩ : ∃ j, k = j + 1 := ⟨k - 1, by omega⟩
    show impl_ProveBetween.l2 (k + 1) _ _ _ _ _ _ _ = _
    simp only [impl_ProveBetween.l2]
    have hx := e2 k (by omega)
    rw [List.append_assoc, List.singleton_append] at hx
    rw [if_pos (by omega), if_pos (by omega), if_pos (by omega), e1 _ (by omega), Option.bind_some, if_pos (by omega), w64 (by omega) (by omega)]
    exact hx
theorem impl_Prove_l1 (l : List S39) (hl : l.length ≤ 1000) (hf : Few l) (lo hi : ByteArray) (x : Nat) (hx : x ≤ l.length) : ∀ (d i : Nat), i + d = l.length → x ≤ i →
    Ev (fun k => impl_ProveBetween.l1 k l lo hi (x : Int) (i : Int)) (resM l x (whileM (btwP l lo hi) d i)) := by
  have fin : ∀ t : Nat, x ≤ t → t ≤ l.length → Ev (fun k => impl_ProveBetween.j3 k l (x : Int) (t : Int)) (resM l x t) := by
    intro t h1 h2
    have e := impl_Prove_l2 l hl hf (x - 1) (min (t + 1) l.length) (by omega) (l.length : Int) 0 (min (t + 1) l.length - (x - 1)) (x - 1) [] (by omega) (by omega) (by simp)
    rw [List.nil_append, itemsM_len] at e
    have e2 : Ev (fun k => impl_ProveBetween.l2 k l ((x - 1 : Nat) : Int) ((min (t + 1) l.length : Nat) : Int) ((x - 1 : Nat) : Int) (l.length : Int) 0 []) (resM l x t) := e.cast (by
      unfold resM
      by_cases c : x - 1 < min (t + 1) l.length
      · rw [if_pos c, if_pos (by omega)]
      · rw [if_neg c, if_neg (by omega)])
    have emx : mx (wrap64 ((x : Int) - 1)) 0 = ((x - 1 : Nat) : Int) := by rw [w64 (by omega) (by omega)]; unfold mx; split <;> omega
    have emn : mn (wrap64 ((t : Int) + 1)) (l.length : Int) = ((min (t + 1) l.length : Nat) : Int) := by rw [w64 (by omega) (by omega)]; unfold mn; split <;> omega
    refine Ev.up e2 (fun k hk => ?_)
    simp only [impl_ProveBetween.j3]
    rw [emx, emn]
    exact hk
  intro d
  induction d with
  | zero =>
    intro i hid hxi
    refine Ev.up (fin i hxi (by omega)) (fun k hk => ?_)
    simp only [impl_ProveBetween.l1]
    rw [if_neg (by omega)]
    exact hk
  | succ d ih =>
    intro i hid hxi
    by_cases c : btwP l lo hi i = true
    · have hw : whileM (btwP l lo hi) (d + 1) i = whileM (btwP l lo hi) d (i + 1) := by rw [whileM, if_pos c]
      rw [hw]
      refine Ev.up (ih (i + 1) (by omega) (by omega)) (fun k hk => ?_)
      simp only [impl_ProveBetween.l1]
      have c' : btwB lo hi (rd_T39 l (i : Int)) = true := c
      rw [if_pos (by omega), if_pos (by omega), impl_isBetween_eq, Option.bind_some, if_pos c', w64 (by omega) (by omega)]
      exact hk
    · have hw : whileM (btwP l lo hi) (d + 1) i = i := by rw [whileM, if_neg c]
      rw [hw]
      refine Ev.up (fin i hxi (by omega)) (fun k hk => ?_)
      simp only [impl_ProveBetween.l1]
      have c' : ¬ btwB lo hi (rd_T39 l (i : Int)) = true := c
      rw [if_pos (by omega), if_pos (by omega), impl_isBetween_eq, Option.bind_some, if_neg c']
      exact hk
theorem impl_Prove_l0 (l : List S39) (hl : l.length ≤ 1000) (hf : Few l) (lo hi : ByteArray) : ∀ (d i : Nat), i + d = l.length →
    Ev (fun k => impl_ProveBetween.l0 k l lo hi (i : Int)) (resM l (whileM (lessP l lo) d i) (whileM (btwP l lo hi) (l.length - whileM (lessP l lo) d i) (whileM (lessP l lo) d i))) := by
  intro d
  induction d with
  | zero =>
    intro i hid
    refine Ev.up (Ev.up (impl_Prove_l1 l hl hf lo hi i (by omega) (l.length - i) i (by omega) (by omega)) (g := fun k => impl_ProveBetween.j1 k l lo hi (i : Int)) (fun k hk => ?_)) (fun k hk => ?_)
    · simp only [impl_ProveBetween.j1]
      exact hk
    · simp only [impl_ProveBetween.l0]
      rw [if_neg (by omega)]
      exact hk
  | succ d ih =>
    intro i hid
    by_cases c : lessP l lo i = true
    · have hw : whileM (lessP l lo) (d + 1) i = whileM (lessP l lo) d (i + 1) := by rw [whileM, if_pos c]
      rw [hw]
      refine Ev.up (ih (i + 1) (by omega)) (fun k hk => ?_)
      simp only [impl_ProveBetween.l0]
      have c' : Op.bytesLess (rd_T39 l (i : Int)).f0.toList lo.toList = true := c
      rw [if_pos (by omega), if_pos (by omega), if_pos c', w64 (by omega) (by omega)]
      exact hk
    · have hw : whileM (lessP l lo) (d + 1) i = i := by rw [whileM, if_neg c]
      rw [hw]
      refine Ev.up (Ev.up (impl_Prove_l1 l hl hf lo hi i (by omega) (l.length - i) i (by omega) (by omega)) (g := fun k => impl_ProveBetween.j1 k l lo hi (i : Int)) (fun k hk => ?_)) (fun k hk => ?_)
      · simp only [impl_ProveBetween.j1]
        exact hk
      · simp only [impl_ProveBetween.l0]
        have c' : ¬ Op.bytesLess (rd_T39 l (i : Int)).f0.toList lo.toList = true := c
        rw [if_pos (by omega), if_pos (by omega), if_neg c']
        exact hk
theorem impl_ProveBetween_ev (l : List S39) (hl : l.length ≤ 1000) (hf : Few l) (lo hi : ByteArray) : Ev (fun k => impl_ProveBetween.f k l lo hi) (proveM l lo hi) := by
  obtain ⟨K1, e1⟩ := Ev.get (impl_PairsOk_ev l (by omega) (fun p hp => by have := (hf p hp).1; omega))
  obtain ⟨K2, e2⟩ := Ev.get (impl_Prove_l0 l hl hf lo hi l.length 0 (by omega))
  unfold proveM
  by_cases c : pokM l l.length 0 = true
  · refine ⟨K1 + K2, fun k hk => ?_⟩
    show impl_ProveBetween.f k l lo hi = _
    unfold impl_ProveBetween.f
    rw [e1 _ (by omega), Option.bind_some, if_pos c, if_pos c]
    have hx := e2 k (by omega)
    exact hx
  · refine ⟨K1, fun k hk => ?_⟩
    show impl_ProveBetween.f k l lo hi = _
    unfold impl_ProveBetween.f
    rw [e1 _ (by omega), Option.bind_some, if_neg c, if_neg c]
theorem spec_Prove_l2 (l : List S39) (hl : l.length ≤ 1000) (hf : Few l) (b : Nat) (hb : b ≤ l.length) (N F : Int) : ∀ (d i : Nat) (acc : List S79), i + d = b ∨ (d = 0 ∧ b ≤ i) → i ≤ 2000 → acc.length ≤ i →
    Ev (fun k => spec_ProveBetween.l2 k l (b : Int) (i : Int) N F acc) (N, F, acc ++ itemsM l d i) := by
  intro d
  induction d with
  | zero =>
    intro i acc hi hi2 hacc
    refine Ev.up (Ev.now _) (fun k _ => ?_)
    simp only [spec_ProveBetween.l2]
    rw [if_neg (by omega)]
    unfold itemsM
    rw [List.append_nil]
  | succ d ih =>
    intro i acc hi hi2 hacc
    obtain ⟨K1, e1⟩ := Ev.get (spec_l4Path_ev _ l i rfl (by omega) (by omega) hf)
    obtain ⟨K2, e2⟩ := Ev.get (ih (i + 1) (acc ++ [itemM l i]) (by omega) (by omega) (by simp; omega))
    refine ⟨K1 + K2 + 1, fun k hk => ?_⟩
    obtain ⟨k, rfl⟩ : ∃ j, k = j + 1 := ⟨k - 1, by omega⟩
    show spec_ProveBetween.l2 (k + 1) _ _ _ _ _ _ = _
    simp only [spec_ProveBetween.l2]
    have hx := e2 k (by omega)
    rw [List.append_assoc, List.singleton_append] at hx
    rw [if_pos (by omega), if_pos (by omega), if_pos (by omega), e1 _ (by omega), Option.bind_some, if_pos (by omega), w64 (by omega) (by omega)]
    exact hx
theorem spec_Prove_l1 (l : List S39) (hl : l.length ≤ 1000) (hf : Few l) (lo hi : ByteArray) (x : Nat) (hx : x ≤ l.length) : ∀ (d i : Nat), i + d = l.length → x ≤ i →
    Ev (fun k => spec_ProveBetween.l1 k l lo hi (x : Int) (i : Int) (l.length : Int) 0) (resM l x (whileM (btwP l lo hi) d i)) := by
  have j6 : ∀ (a b : Nat) (F : Int), a ≤ l.length → b ≤ l.length → Ev (fun k => spec_ProveBetween.j6 k l (a : Int) (b : Int) (l.length : Int) F) ((l.length : Int), F, itemsM l (b - a) a) := by
    intro a b F ha hb
    have e := spec_Prove_l2 l hl hf b hb (l.length : Int) F (b - a) a [] (by omega) (by omega) (by simp)
    rw [List.nil_append] at e
    refine Ev.up e (fun k hk => ?_)
    simp only [spec_ProveBetween.j6]
    exact hk
  have j5 : ∀ (a b : Nat), a ≤ l.length → b ≤ l.length → Ev (fun k => spec_ProveBetween.j5 k l (a : Int) (b : Int) (l.length : Int) 0) ((l.length : Int), (if a < b then (a : Int) else 0), itemsM l (b - a) a) := by
    intro a b ha hb
    by_cases c : a < b
    · rw [if_pos c]
      refine Ev.up (j6 a b (a : Int) ha hb) (fun k hk => ?_)
      simp only [spec_ProveBetween.j5]
      rw [if_pos (by omega)]
      exact hk
    · rw [if_neg c]
      refine Ev.up (j6 a b 0 ha hb) (fun k hk => ?_)
      simp only [spec_ProveBetween.j5]
      rw [if_neg (by omega)]
      exact hk
  have j4 : ∀ (a t : Nat), a ≤ l.length → t ≤ l.length → Ev (fun k => spec_ProveBetween.j4 k l (a : Int) (t : Int) (l.length : Int) 0) ((l.length : Int), (if a < min (t + 1) l.length then (a : Int) else 0), itemsM l (min (t + 1) l.length - a) a) := by
    intro a t ha ht
    refine Ev.up (j5 a (min (t + 1) l.length) ha (by omega)) (fun k hk => ?_)
    simp only [spec_ProveBetween.j4]
    by_cases c : t < l.length
    · rw [if_pos (by omega), w64 (by omega) (by omega), show (t : Int) + 1 = ((min (t + 1) l.length : Nat) : Int) by omega]
      exact hk
    · rw [if_neg (by omega), show (t : Int) = ((min (t + 1) l.length : Nat) : Int) by omega]
      exact hk
  have fin : ∀ t : Nat, x ≤ t → t ≤ l.length → Ev (fun k => spec_ProveBetween.j3 k l (x : Int) (t : Int) (l.length : Int) 0) (resM l x t) := by
    intro t h1 h2
    refine Ev.up (j4 (x - 1) t (by omega) h2) (fun k hk => ?_)
    simp only [spec_ProveBetween.j3]
    by_cases c : (x : Int) > 0
    · rw [if_pos c, w64 (by omega) (by omega), show (x : Int) - 1 = ((x - 1 : Nat) : Int) by omega]
      exact hk
    · rw [if_neg c]
      have e : ((x - 1 : Nat) : Int) = (x : Int) := by omega
      rw [e] at hk
      rw [hk]
      try (unfold resM; rw [e])
  intro d
  induction d with
  | zero =>
    intro i hid hxi
    refine Ev.up (fin i hxi (by omega)) (fun k hk => ?_)
    simp only [spec_ProveBetween.l1]
    rw [if_neg (by omega)]
    exact hk
  | succ d ih =>
    intro i hid hxi
    by_cases c : btwP l lo hi i = true
    · have hw : whileM (btwP l lo hi) (d + 1) i = whileM (btwP l lo hi) d (i + 1) := by rw [whileM, if_pos c]
      rw [hw]
      refine Ev.up (ih (i + 1) (by omega) (by omega)) (fun k hk => ?_)
      simp only [spec_ProveBetween.l1]
      have c' : btwB lo hi (rd_T39 l (i : Int)) = true := c
      rw [if_pos (by omega), if_pos (by omega), spec_l3In_eq, Option.bind_some, if_pos c', w64 (by omega) (by omega)]
      exact hk
    · have hw : whileM (btwP l lo hi) (d + 1) i = i := by rw [whileM, if_neg c]
      rw [hw]
      refine Ev.up (fin i hxi (by omega)) (fun k hk => ?_)
      simp only [spec_ProveBetween.l1]
      have c' : ¬ btwB lo hi (rd_T39 l (i : Int)) = true := c
      rw [if_pos (by omega), if_pos (by omega), spec_l3In_eq, Option.bind_some, if_neg c']
      exact hk
theorem spec_Prove_l0 (l : List S39) (hl : l.length ≤ 1000) (hf : Few l) (lo hi : ByteArray) : ∀ (d i : Nat), i + d = l.length →
    Ev (fun k => spec_ProveBetween.l0 k l lo hi (i : Int) (l.length : Int) 0) (resM l (whileM (lessP l lo) d i) (whileM (btwP l lo hi) (l.length - whileM (lessP l lo) d i) (whileM (lessP l lo) d i))) := by
  intro d
  induction d with
  | zero =>
    intro i hid
    refine Ev.up (Ev.up (spec_Prove_l1 l hl hf lo hi i (by omega) (l.length - i) i (by omega) (by omega)) (g := fun k => spec_ProveBetween.j1 k l lo hi (i : Int) (l.length : Int) 0) (fun k hk => ?_)) (fun k hk => ?_)
    · simp only [spec_ProveBetween.j1]
      exact hk
    · simp only [spec_ProveBetween.l0]
      rw [if_neg (by omega)]
      exact hk
  | succ d ih =>
    intro i hid
    by_cases c : lessP l lo i = true
    · have hw : whileM (lessP l lo) (d + 1) i = whileM (lessP l lo) d (i + 1) := by rw [whileM, if_pos c]
      rw [hw]
      refine Ev.up (ih (i + 1) (by omega)) (fun k hk => ?_)
      simp only [spec_ProveBetween.l0]
      have c' : Op.bytesLess (rd_T39 l (i : Int)).f0.toList lo.toList = true := c
      rw [if_pos (by omega), if_pos (by omega), if_pos c', w64 (by omega) (by omega)]
      exact hk
    · have hw : whileM (lessP l lo) (d + 1) i = i := by rw [whileM, if_neg c]
      rw [hw]
      refine Ev.up (Ev.up (spec_Prove_l1 l hl hf lo hi i (by omega) (l.length - i) i (by omega) (by omega)) (g := fun k => spec_ProveBetween.j1 k l lo hi (i : Int) (l.length : Int) 0) (fun k hk => ?_)) (fun k hk => ?_)
      · simp only [spec_ProveBetween.j1]
        exact hk
      · simp only [spec_ProveBetween.l0]
        have c' : ¬ Op.bytesLess (rd_T39 l (i : Int)).f0.toList lo.toList = true := c
        rw [if_pos (by omega), if_pos (by omega), if_neg c']
        exact hk
theorem spec_ProveBetween_ev (l : List S39) (hl : l.length ≤ 1000) (hf : Few l) (lo hi : ByteArray) : Ev (fun k => spec_ProveBetween.f k l lo hi) (proveM l lo hi) := by
  obtain ⟨K1, e1⟩ := Ev.get (spec_PairsOk_ev l (by omega) (fun p hp => by have := (hf p hp).1; omega))
  obtain ⟨K2, e2⟩ := Ev.get (spec_Prove_l0 l hl hf lo hi l.length 0 (by omega))
  unfold proveM
  by_cases c : pokM l l.length 0 = true
  · refine ⟨K1 + K2, fun k hk => ?_⟩
    show spec_ProveBetween.f k l lo hi = _
    unfold spec_ProveBetween.f
    rw [e1 _ (by omega), Option.bind_some, if_pos c, if_pos c]
    have hx := e2 k (by omega)
    exact hx
  · refine ⟨K1, fun k hk => ?_⟩
    show spec_ProveBetween.f k l lo hi = _
    unfold spec_ProveBetween.f
    rw [e1 _ (by omega), Option.bind_some, if_neg c, if_neg c]
/-! ### how many are between -/
theorem filter_len_of {α : Type} (P : α → Bool) (l : List α) (f t : Nat) (hft : f ≤ t) (ht : t ≤ l.length) (h1 : ∀ j (hj : j < l.length), j < f → P l[j] = false) (h2 : ∀ j (hj : j < l.length), f ≤ j → j < t → P l[j] = true) (h3 : ∀ j (hj : j < l.length), t ≤ j → P l[j] = false) :
    (l.filter P).length = t - f := by
  have e : l = l.take f ++ ((l.drop f).take (t - f) ++ l.drop t) := by
    have e1 : l.drop t = (l.drop f).drop (t - f) := by rw [List.drop_drop]; congr 1; omega
    rw [e1, List.take_append_drop, List.take_append_drop]
  have f1 : (l.take f).filter P = [] := by
    rw [List.filter_eq_nil_iff]
    intro x hx
    obtain ⟨j, hj, rfl⟩ := List.getElem_of_mem hx
    rw [List.length_take] at hj
    rw [List.getElem_take, h1 j (by omega) (by omega)]
    simp
  have f2 : ((l.drop f).take (t - f)).filter P = (l.drop f).take (t - f) := by
    rw [List.filter_eq_self]
    intro x hx
    obtain ⟨j, hj, rfl⟩ := List.getElem_of_mem hx
    rw [List.length_take, List.length_drop] at hj
    rw [List.getElem_take, List.getElem_drop]
    exact h2 (f + j) (by omega) (by omega) (by omega)
  have f3 : (l.drop t).filter P = [] := by
    rw [List.filter_eq_nil_iff]
    intro x hx
    obtain ⟨j, hj, rfl⟩ := List.getElem_of_mem hx
    rw [List.length_drop] at hj
    rw [List.getElem_drop, h3 (t + j) (by omega) (by omega)]
    simp
  rw [e, List.filter_append, List.filter_append, f1, f2, f3, List.nil_append, List.append_nil, List.length_take, List.length_drop]
  omega
theorem between_len {l : List S39} (hok : pokM l l.length 0 = true) {lo hi : ByteArray} (hlh : hi.toList = [] ∨ ¬ Op.bytesLess hi.toList lo.toList = true) :
    (l.filter (btwB lo hi)).length = toM l lo hi - fromM l lo := by
  obtain ⟨a1, a2, a3, a4⟩ := whileM_spec (lessP l lo) l.length 0
  obtain ⟨b1, b2, b3, b4⟩ := whileM_spec (btwP l lo hi) (l.length - fromM l lo) (fromM l lo)
  have hle := fromM_le l lo
  have hpw := pokM_pairwise l hok
  have less : ∀ i j (hi : i < l.length) (hj : j < l.length), i < j → Op.bytesLess l[i].f0.toList l[j].f0.toList = true := fun i j hi hj hij => List.pairwise_iff_getElem.1 hpw i j hi hj hij
  have lP : ∀ j (hj : j < l.length), lessP l lo j = Op.bytesLess l[j].f0.toList lo.toList := fun j hj => by unfold lessP; rw [rdP_get l hj]
  have bP : ∀ j (hj : j < l.length), btwP l lo hi j = btwB lo hi l[j] := fun j hj => by unfold btwP; rw [rdP_get l hj]
  refine filter_len_of (btwB lo hi) l (fromM l lo) (toM l lo hi) b1 (by unfold toM; omega) (fun j hj h => ?_) (fun j hj h h' => ?_) (fun j hj h => ?_)
  · have := a3 j (by omega) h
    rw [lP j hj] at this
    unfold btwB
    rw [this]
    rfl
  · have := b3 j h h'
    rw [bP j hj] at this
    exact this
  · have ht : toM l lo hi < l.length := by omega
    have n1 : btwB lo hi l[toM l lo hi] = false := by
      have := b4 (by unfold toM at ht; omega)
      have e : btwP l lo hi (toM l lo hi) = false := this
      rw [bP _ ht] at e
      exact e
    -- the one at the end is not less than lo
    have n2 : ¬ Op.bytesLess l[toM l lo hi].f0.toList lo.toList = true := by
      intro hc
      have hfl : fromM l lo < l.length := by have := b1; unfold toM at ht; omega
      have h0 : lessP l lo (fromM l lo) = false := a4 (by unfold fromM at hfl; omega)
      rw [lP _ hfl] at h0
      by_cases e : fromM l lo = toM l lo hi
      · simp only [e] at h0
        rw [h0] at hc
        cases hc
      · have := less_trans (less (fromM l lo) (toM l lo hi) hfl ht (by have := b1; unfold toM; unfold toM at e; omega)) hc
        rw [h0] at this
        cases this
    unfold btwB at n1 ⊢
    have n2' : Op.bytesLess l[toM l lo hi].f0.toList lo.toList = false := by simpa using n2
    rw [n2'] at n1
    simp only [Bool.not_false, Bool.true_and, Bool.or_eq_false_iff, decide_eq_false_iff_not] at n1
    obtain ⟨n3, n4⟩ := n1
    have n5 : Op.bytesLess l[j].f0.toList hi.toList = false := by
      by_cases e : j = toM l lo hi
      · subst e; exact n4
      · cases hc : Op.bytesLess l[j].f0.toList hi.toList with
        | false => rfl
        | true =>
          have := less_trans (less (toM l lo hi) j ht hj (by omega)) hc
          rw [n4] at this
          cases this
    rw [n5, Bool.or_false, decide_eq_false n3, Bool.and_false]
end Go.Proofs.Ytbelaenekbflfaa.P
/- Proofs of all between: the program's and the reference's for rows of any length; proofs compared, marked, held. No condition but bounds on lengths. -/
namespace Go.Proofs.Ytbelaenekbflfaa.P
open Go.RowKit Go.Proofs.YtbelaenekbflfaaW.PrintWords Go.Proofs.YtbelaenekbflfaaW.PrintLast Go.Proofs.YtbelaenekbflfaaW.PrintMore
set_option linter.unusedVariables false
set_option linter.unusedSimpArgs false
theorem pokM_few {l : List S39} : ∀ d i : Nat, pokM l d i = true → l.length ≤ 60 := by
  intro d
  induction d with
  | zero => intro i h; unfold pokM at h; have := of_decide_eq_true h; omega
  | succ d ih =>
    intro i h
    unfold pokM at h
    split at h
    · split at h
      · split at h
        · exact ih _ h
        · cases h
      · exact ih _ h
    · cases h
theorem impl_Prove_all (l : List S39) (hl : l.length ≤ 10000000) (hf : Few l) (lo hi : ByteArray) : Ev (fun k => impl_ProveBetween.f k l lo hi) (proveM l lo hi) := by
  by_cases h : l.length ≤ 1000
  · exact impl_ProveBetween_ev l h hf lo hi
  · obtain ⟨K1, e1⟩ := Ev.get (impl_PairsOk_ev l (by omega) (fun p hp => by have := (hf p hp).1; omega))
    have c : ¬ pokM l l.length 0 = true := fun h2 => by have := pokM_few _ _ h2; omega
    refine ⟨K1, fun k hk => ?_⟩
    show impl_ProveBetween.f k l lo hi = _
    unfold impl_ProveBetween.f proveM
    rw [e1 _ (by omega), Option.bind_some, if_neg c, if_neg c]
theorem spec_Prove_all (l : List S39) (hl : l.length ≤ 10000000) (hf : Few l) (lo hi : ByteArray) : Ev (fun k => spec_ProveBetween.f k l lo hi) (proveM l lo hi) := by
  by_cases h : l.length ≤ 1000
  · exact spec_ProveBetween_ev l h hf lo hi
  · obtain ⟨K1, e1⟩ := Ev.get (spec_PairsOk_ev l (by omega) (fun p hp => by have := (hf p hp).1; omega))
    have c : ¬ pokM l l.length 0 = true := fun h2 => by have := pokM_few _ _ h2; omega
    refine ⟨K1, fun k hk => ?_⟩
    show spec_ProveBetween.f k l lo hi = _
    unfold spec_ProveBetween.f proveM
    rw [e1 _ (by omega), Option.bind_some, if_neg c, if_neg c]
theorem itemsM_few (l : List S39) : ∀ (d i : Nat), ∀ x ∈ itemsM l d i, x.f1.length ≤ l.length := by
  intro d
  induction d with
  | zero => intro i x hx; cases hx
  | succ d ih =>
    intro i x hx
    rcases List.mem_cons.1 hx with rfl | hx
    · exact pathM_len _ l i rfl
    · exact ih _ x hx
/-- Few items, each of a short path. -/
def FewI (l : List S79) : Prop := l.length ≤ 1000 ∧ ∀ x ∈ l, x.f1.length ≤ 1000
theorem proveM_few (l : List S39) (lo hi : ByteArray) : FewI (proveM l lo hi).2.2 := by
  unfold proveM
  split
  · rename_i h
    have h60 := pokM_few _ _ h
    refine ⟨?_, fun x hx => Nat.le_trans (itemsM_few l _ _ x hx) (by omega)⟩
    show (itemsM l _ _).length ≤ _
    rw [itemsM_len]
    unfold endM
    omega
  · exact ⟨Nat.zero_le _, fun x hx => by cases hx⟩
theorem eqItemS_loop (l : List S79) (hn : l.length ≤ 1000) (hp : ∀ x ∈ l, x.f1.length ≤ 1000) : ∀ d i : Nat, l.length - i = d → i ≤ l.length → Ev (fun k => laws_eqItemS.l0 k l l (i : Int)) true := by
  intro d
  induction d with
  | zero =>
    intro i hd hi
    refine Ev.up (Ev.now _) (fun k _ => ?_)
    simp only [laws_eqItemS.l0]
    rw [if_neg (by omega)]
  | succ d ih =>
    intro i hd hi
    have hil : i < l.length := by omega
    have hx : rd_T79 l (i : Int) ∈ l := by
      unfold rd_T79
      rw [List.getD_eq_getElem?_getD, Int.toNat_natCast, List.getElem?_eq_getElem hil]
      exact List.getElem_mem hil
    have hz := hp _ hx
    obtain ⟨K1, e1⟩ := Ev.get (eqStringS_ev (rd_T79 l (i : Int)).f1 (by omega))
    obtain ⟨K2, e2⟩ := Ev.get (ih (i + 1) (by omega) (by omega))
    refine ⟨K1 + K2 + 1, fun k hk => ?_⟩
    obtain ⟨k, rfl⟩ : ∃ j, k = j + 1 := ⟨k - 1, by omega⟩
    have hy := e2 k (by omega)
    have hi2 : laws_eqItem.f k (rd_T79 l (i : Int)).f0.f0 (rd_T79 l (i : Int)).f0.f1 (rd_T79 l (i : Int)).f1 (rd_T79 l (i : Int)).f0.f0 (rd_T79 l (i : Int)).f0.f1 (rd_T79 l (i : Int)).f1 = some true := by
      unfold laws_eqItem.f laws_eqPair.f
      rw [if_pos rfl, if_pos rfl, Option.bind_some, if_pos rfl, e1 _ (by omega), Option.bind_some, if_pos rfl]
    show laws_eqItemS.l0 (k + 1) _ _ _ = _
    simp only [laws_eqItemS.l0]
    rw [if_pos (by omega), if_pos (by omega), if_pos (by omega), hi2, Option.bind_some, if_pos rfl, w64 (by omega) (by omega)]
    exact hy
theorem eqProof_ev (a b : Int) (l : List S79) (h : FewI l) : Ev (fun k => laws_eqProof.f k a b l a b l) true := by
  obtain ⟨K, e⟩ := Ev.get (eqItemS_loop l h.1 h.2 _ 0 rfl (by omega))
  refine ⟨K, fun k hk => ?_⟩
  have hx : laws_eqItemS.l0 k l l 0 = some true := e k hk
  show laws_eqProof.f k a b l a b l = _
  unfold laws_eqProof.f laws_eqItemS.f
  rw [if_pos rfl, if_pos rfl, if_pos rfl, hx, Option.bind_some, if_pos rfl]
/-- Items marked: what they hold then, and the next mark. -/
noncomputable def mkI : List S79 → Int → List S79 × Int
  | [], a => ([], a)
  | x :: l, a => (⟨⟨mtx a, mtx (a + 1)⟩, marksStr (a + 2) x.f1.length⟩ :: (mkI l (a + 2 + x.f1.length)).1, (mkI l (a + 2 + x.f1.length)).2)
theorem mkI_ge : ∀ (l : List S79) (a : Int), a ≤ (mkI l a).2 := by
  intro l
  induction l with
  | nil => intro a; exact Int.le_refl _
  | cons x l ih => intro a; have := ih (a + 2 + x.f1.length); show a ≤ (mkI l (a + 2 + x.f1.length)).2; omega
theorem mkI_len : ∀ (l : List S79) (a : Int), (mkI l a).1.length = l.length := by
  intro l
  induction l with
  | nil => intro a; rfl
  | cons x l ih => intro a; show (mkI l _).1.length + 1 = _; rw [ih]; rfl
theorem mi_ev : ∀ (l done : List S79) (a : Int), 0 ≤ a → a + 2000 * (l.length : Int) ≤ 10000000000 → (∀ x ∈ l, x.f1.length ≤ 1000) → Ev (fun k => mi k l.length done.length (done ++ l) a) ((mkI l a).2, done ++ (mkI l a).1) := by
  intro l
  induction l with
  | nil => intro done a _ _ _; exact Ev.now _
  | cons x l ih =>
    intro done a h0 h1 hp
    have hx := hp x List.mem_cons_self
    simp only [List.length_cons] at h1
    obtain ⟨K1, e1⟩ := Ev.get (markText_ev a (by omega))
    obtain ⟨K2, e2⟩ := Ev.get (markText_ev (a + 1) (by omega))
    obtain ⟨K3, e3⟩ := Ev.get (markStringS_ev x.f1 (a + 2) (by omega) (by omega) (by omega))
    obtain ⟨K4, e4⟩ := Ev.get (ih (done ++ [⟨⟨mtx a, mtx (a + 1)⟩, marksStr (a + 2) x.f1.length⟩]) (a + 2 + x.f1.length) (by omega) (by omega) (fun y hy => hp y (List.mem_cons_of_mem _ hy)))
    refine ⟨K1 + K2 + K3 + K4, fun k hk => ?_⟩
    have f4 := e4 k (by omega)
    have f3 : laws_markStringS.f k x.f1 (a + 2) = _ := e3 k (by omega)
    show mi k (l.length + 1) done.length (done ++ x :: l) a = _
    have hg : (done ++ x :: l).getD done.length z79 = x := by
      rw [List.getD_eq_getElem?_getD, List.getElem?_append_right (Nat.le_refl _), Nat.sub_self]
      rfl
    have hs : ∀ y : S79, (done ++ x :: l).set done.length y = (done ++ [y]) ++ l := fun y => by
      rw [List.set_append, if_neg (by omega), Nat.sub_self, List.set_cons_zero, List.append_assoc]
      rfl
    rw [mi, e1 k (by omega), Option.bind_some, w64 (x := a + 1) (by omega) (by omega), e2 k (by omega), Option.bind_some, w64 (by omega) (by omega), hg, show a + 1 + 1 = a + 2 by omega, f3, Option.bind_some, hs]
    have f5 : mi k l.length (done ++ [(⟨⟨mtx a, mtx (a + 1)⟩, marksStr (a + 2) x.f1.length⟩ : S79)]).length ((done ++ [⟨⟨mtx a, mtx (a + 1)⟩, marksStr (a + 2) x.f1.length⟩]) ++ l) (a + 2 + x.f1.length) = _ := f4
    rw [List.length_append, List.length_singleton] at f5
    rw [f5, mkI, List.append_assoc]
    rfl
theorem markProof_ev (a0 a1 : Int) (l : List S79) (h : FewI l) : Ev (fun k => laws_markProof.f k a0 a1 l 1) ((mkI l 1).2, (mkI l 1).1) := by
  obtain ⟨h1, h2⟩ := h
  obtain ⟨K, e⟩ := Ev.get (mi_ev l [] 1 (by omega) (by omega) h2)
  refine ⟨K, fun k hk => ?_⟩
  show laws_markProof.f k a0 a1 l 1 = _
  unfold laws_markProof.f mi_all
  rw [if_pos (by omega)]
  exact e k hk
theorem held_ev : ∀ (l done : List S79) (a : Int), 0 ≤ a → a + 2000 * (l.length : Int) ≤ 10000000000 → done.length + l.length ≤ 100000 → (∀ x ∈ l, x.f1.length ≤ 1000) → Ev (fun k => laws_heldItemS.l0 k (done ++ (mkI l a).1) a (done.length : Int)) (mkI l a).2 := by
  intro l
  induction l with
  | nil =>
    intro done a _ _ hd _
    refine Ev.up (Ev.now _) (fun k _ => ?_)
    simp only [laws_heldItemS.l0]
    rw [if_neg (by simp only [mkI, List.append_nil]; omega)]
    rfl
  | cons x l ih =>
    intro done a h0 h1 hd hp
    have hx := hp x List.mem_cons_self
    simp only [List.length_cons] at h1 hd
    have hlen := mkI_len l (a + 2 + x.f1.length)
    obtain ⟨y, hy⟩ : ∃ y : S79, y = ⟨⟨mtx a, mtx (a + 1)⟩, marksStr (a + 2) x.f1.length⟩ := ⟨_, rfl⟩
    obtain ⟨K1, e1⟩ := Ev.get (markText_ev a (by omega))
    obtain ⟨K2, e2⟩ := Ev.get (markText_ev (a + 1) (by omega))
    obtain ⟨K3, e3⟩ := Ev.get (heldStringS_ev x.f1.length (a + 2) (by omega) (by omega) (by omega))
    obtain ⟨K4, e4⟩ := Ev.get (ih (done ++ [y]) (a + 2 + x.f1.length) (by omega) (by omega) (by rw [List.length_append, List.length_singleton]; omega) (fun z hz => hp z (List.mem_cons_of_mem _ hz)))
    have hm : mkI (x :: l) a = (y :: (mkI l (a + 2 + x.f1.length)).1, (mkI l (a + 2 + x.f1.length)).2) := by rw [hy]; rfl
    rw [hm]
    refine ⟨K1 + K2 + K3 + K4 + 1, fun k hk => ?_⟩
    obtain ⟨k, rfl⟩ : ∃ j, k = j + 1 := ⟨k - 1, by omega⟩
    have f4 : laws_heldItemS.l0 k ((done ++ [y]) ++ (mkI l (a + 2 + x.f1.length)).1) (a + 2 + x.f1.length) ((done ++ [y]).length : Int) = _ := e4 k (by omega)
    have f3 : laws_heldStringS.f k (marksStr (a + 2) x.f1.length) (a + 2) = _ := e3 k (by omega)
    show laws_heldItemS.l0 (k + 1) (done ++ y :: (mkI l (a + 2 + x.f1.length)).1) a (done.length : Int) = _
    have hX : done ++ y :: (mkI l (a + 2 + x.f1.length)).1 = (done ++ [y]) ++ (mkI l (a + 2 + x.f1.length)).1 := by rw [List.append_assoc]; rfl
    have hr : rd_T79 ((done ++ [y]) ++ (mkI l (a + 2 + x.f1.length)).1) (done.length : Int) = y := by
      unfold rd_T79
      rw [List.getD_eq_getElem?_getD, Int.toNat_natCast, List.append_assoc, List.getElem?_append_right (Nat.le_refl _), Nat.sub_self]
      rfl
    have hL : ((done ++ [y]) ++ (mkI l (a + 2 + x.f1.length)).1).length = done.length + 1 + l.length := by rw [List.length_append, List.length_append, hlen]; rfl
    rw [hX]
    rw [List.length_append, List.length_singleton] at f4
    generalize (done ++ [y]) ++ (mkI l (a + 2 + x.f1.length)).1 = X at *
    simp only [laws_heldItemS.l0]
    rw [if_pos (by omega), if_pos (by omega), e1 k (by omega), Option.bind_some, hr]
    rw [show y.f0.f0 = mtx a by rw [hy], if_pos rfl, w64 (x := a + 1) (by omega) (by omega), e2 k (by omega), Option.bind_some, show y.f0.f1 = mtx (a + 1) by rw [hy], if_pos rfl, w64 (by omega) (by omega), show y.f1 = marksStr (a + 2) x.f1.length by rw [hy], show a + 1 + 1 = a + 2 by omega, f3, Option.bind_some, if_neg (by omega), w64 (by omega) (by omega), show (done.length : Int) + 1 = ((done.length + 1 : Nat) : Int) by omega]
    exact f4
theorem heldProof_ev (a0 a1 : Int) (l : List S79) (h : FewI l) : Ev (fun k => laws_heldProof.f k a0 a1 (mkI l 1).1 1) (mkI l 1).2 := by
  obtain ⟨h1, h2⟩ := h
  have hg := mkI_ge l 1
  obtain ⟨K, e⟩ := Ev.get (held_ev l [] 1 (by omega) (by omega) (by simp only [List.length_nil]; omega) h2)
  refine ⟨K, fun k hk => ?_⟩
  have hx : laws_heldItemS.l0 k (mkI l 1).1 1 0 = some (mkI l 1).2 := e k hk
  show laws_heldProof.f k a0 a1 (mkI l 1).1 1 = _
  unfold laws_heldProof.f laws_heldItemS.f
  rw [hx, Option.bind_some, if_neg (by omega)]
end Go.Proofs.Ytbelaenekbflfaa.P
