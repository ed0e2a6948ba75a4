import Derived.Test.YtgaalomhipfgjaaWAll
import Derived.Laws.BitsAllLaws
import Derived.Laws.Bits128
import Derived.Test.YtgaalomhipfgjaaPx1
import Derived.Test.YtgaalomhipfgjaaPx0
import Derived.Test.YtgaalomhipfgjaaPx11
import Derived.Test.YtgaalomhipfgjaaPx12
import Derived.Test.YtgaalomhipfgjaaPx5
import Derived.Test.YtgaalomhipfgjaaPx3
import Derived.Test.YtgaalomhipfgjaaPx6
import Derived.Test.YtgaalomhipfgjaaPx8
import Derived.Test.YtgaalomhipfgjaaDg5
import Derived.Test.YtgaalomhipfgjaaDg0
import Derived.Test.YtgaalomhipfgjaaDg1
import Derived.Test.YtgaalomhipfgjaaDg2
import Derived.Test.YtgaalomhipfgjaaDg3
import Derived.Test.YtgaalomhipfgjaaPx2
import Derived.Test.YtgaalomhipfgjaaPx7
import Derived.Test.YtgaalomhipfgjaaPx4
import Derived.Test.YtgaalomhipfgjaaPx9
import Derived.Test.YtgaalomhipfgjaaPx10
namespace Go.Proofs.Ytgaalomhipfgjaa.P
open Go.RowKit Go.Proofs.YtgaalomhipfgjaaW.PrintWords Go.Proofs.YtgaalomhipfgjaaW.PrintLast Go.Proofs.YtgaalomhipfgjaaW.PrintMore
theorem w64 {x : Int} (h1 : -9223372036854775808 ≤ x) (h2 : x ≤ 9223372036854775807) : wrap64 x = x := by unfold wrap64; omega
theorem wf_i64 {x : Int} (h : (Lit.int .i64 x).wf = true) : -9223372036854775808 ≤ x ∧ x ≤ 9223372036854775807 := by
  simp [Lit.wf, IntKind.min, IntKind.max, IntKind.signed, IntKind.bits] at h
  omega
theorem _root_.Go.Proofs.YtgaalomhipfgjaaW.PrintWords.Ev.get {α : Type} {g : Nat → Option α} {r : α} (h : Ev g r) : ∃ K, ∀ k, K ≤ k → g k = some r := h
theorem _root_.Go.Proofs.YtgaalomhipfgjaaW.PrintWords.Ev.mk {α : Type} {g : Nat → Option α} {r : α} (K : Nat) (h : ∀ k, K ≤ k → g k = some r) : Ev g r := ⟨K, h⟩
theorem _root_.Go.Proofs.YtgaalomhipfgjaaW.PrintWords.Ev.up {α : Type} {g f : Nat → Option α} {r : α} (k : Ev f r) (h : ∀ k, f k = some r → g (k + 1) = some r) : Ev g r := by
  obtain ⟨K, hK⟩ := k
  refine ⟨K + 1, fun k hk => ?_⟩
  obtain ⟨k, rfl⟩ : ∃ m, k = m + 1 := ⟨k - 1, by omega⟩
  exact h k (hK k (by omega))
theorem _root_.Go.Proofs.YtgaalomhipfgjaaW.PrintWords.Ev.eq {α : Type} {g : Nat → Option α} {r q : α} (h : Ev g r) (h' : Ev g q) : r = q := by
  obtain ⟨K, hK⟩ := h
  obtain ⟨L, hL⟩ := h'
  have h1 := hK (max K L) (Nat.le_max_left _ _)
  have h2 := hL (max K L) (Nat.le_max_right _ _)
  rw [h1] at h2
  exact Option.some.inj h2
theorem _root_.Go.Proofs.YtgaalomhipfgjaaW.PrintWords.Ev.cast {α : Type} {g : Nat → Option α} {r q : α} (h : Ev g r) (e : r = q) : Ev g q := e ▸ h
def By (l : List Int) : Prop := ∀ x ∈ l, 0 ≤ x ∧ x < 256
theorem By.nil : By [] := fun _ h => by cases h
theorem By.app {a b : List Int} (h : By a) (k : By b) : By (a ++ b) := fun x hx => by
  rcases List.mem_append.1 hx with h1 | h1
  · exact h x h1
  · exact k x h1
theorem By.one {x : Int} (h0 : 0 ≤ x) (h1 : x < 256) : By [x] := fun y hy => by
  rw [List.mem_singleton.1 hy]
  exact ⟨h0, h1⟩
theorem By.bytesOf (s : ByteArray) : By (bytesOf s) := fun x hx => by
  obtain ⟨b, _, rfl⟩ := List.mem_map.1 hx
  have := b.toNat_lt
  omega
theorem By.rd {l : List Int} (h : By l) (i : Int) : 0 ≤ rd l i ∧ rd l i < 256 := by
  unfold Go.Proofs.YtgaalomhipfgjaaW.PrintWords.rd
  rw [List.getD_eq_getElem?_getD]
  by_cases hi : i.toNat < l.length
  · rw [List.getElem?_eq_getElem hi]
    exact h _ (List.getElem_mem hi)
  · rw [List.getElem?_eq_none (by omega)]
    simp
theorem rd_nat (l : List Int) (i : Nat) (h : i < l.length) : rd l (i : Int) = l[i] := by
  unfold rd
  simp [List.getD_eq_getElem?_getD, h]
theorem copy_step {α β : Type} (x0 : List α) (f : α → β) (z : β) (i : Nat) (h : i < x0.length) :
    ((x0.take i).map f ++ List.replicate (x0.length - i) z).set i (f x0[i]) = (x0.take (i + 1)).map f ++ List.replicate (x0.length - (i + 1)) z := by
  have hl : ((x0.take i).map f).length = i := by simp; omega
  have hr : List.replicate (x0.length - i) z = z :: List.replicate (x0.length - (i + 1)) z := by
    rw [show x0.length - i = (x0.length - (i + 1)) + 1 by omega, List.replicate_succ]
  rw [hr, List.set_append, if_neg (by omega), hl, Nat.sub_self, List.set_cons_zero, List.take_succ_eq_append_getElem h, List.map_append, List.append_assoc]
  rfl
theorem copy_len {α β : Type} (x0 : List α) (f : α → β) (z : β) (i : Nat) (h : i ≤ x0.length) : ((x0.take i).map f ++ List.replicate (x0.length - i) z).length = x0.length := by
  simp
  omega
theorem copy_start {α β : Type} (x0 : List α) (f : α → β) (z : β) : List.replicate x0.length z = (x0.take 0).map f ++ List.replicate (x0.length - 0) z := by simp
theorem copy_end {α β : Type} (x0 : List α) (f : α → β) (z : β) : (x0.take x0.length).map f ++ List.replicate (x0.length - x0.length) z = x0.map f := by simp
theorem i64_wrap_small {n : Int} (h0 : 0 ≤ n) (h1 : n < 9223372036854775808) : IntKind.i64.wrap n = n := by rw [IntKind.wrap_i64]; omega
theorem ofInt64 (a : Nat) (ha : a < 9223372036854775808) : (BitVec.ofInt 64 (a : Int)).toNat = a := by
  rw [BitVec.ofInt_natCast, BitVec.toNat_ofNat]
  exact Nat.mod_eq_of_lt (by omega)
theorem i64_and_nat (a b : Nat) (ha : a < 9223372036854775808) (hb : b < 9223372036854775808) : Go.bits .and .i64 (a : Int) (b : Int) = ((a &&& b : Nat) : Int) := by
  show IntKind.i64.wrap (((BitVec.ofInt 64 (a : Int)) &&& (BitVec.ofInt 64 (b : Int))).toNat : Int) = _
  rw [BitVec.toNat_and, ofInt64 a ha, ofInt64 b hb]
  have h_ : a &&& b ≤ a := Nat.and_le_left
  exact i64_wrap_small (n := ((a &&& b : Nat) : Int)) (Int.natCast_nonneg _) (by omega)
theorem i64_or_nat (a b : Nat) (ha : a < 9223372036854775808) (hb : b < 9223372036854775808) : Go.bits .or .i64 (a : Int) (b : Int) = ((a ||| b : Nat) : Int) := by
  show IntKind.i64.wrap (((BitVec.ofInt 64 (a : Int)) ||| (BitVec.ofInt 64 (b : Int))).toNat : Int) = _
  rw [BitVec.toNat_or, ofInt64 a ha, ofInt64 b hb]
  have h_ : a ||| b < 2 ^ 63 := Nat.or_lt_two_pow (by omega) (by omega)
  exact i64_wrap_small (n := ((a ||| b : Nat) : Int)) (Int.natCast_nonneg _) (by omega)
theorem i64_xor_nat (a b : Nat) (ha : a < 9223372036854775808) (hb : b < 9223372036854775808) : Go.bits .xor .i64 (a : Int) (b : Int) = ((a ^^^ b : Nat) : Int) := by
  show IntKind.i64.wrap (((BitVec.ofInt 64 (a : Int)) ^^^ (BitVec.ofInt 64 (b : Int))).toNat : Int) = _
  rw [BitVec.toNat_xor, ofInt64 a ha, ofInt64 b hb]
  have h_ : a ^^^ b < 2 ^ 63 := Nat.xor_lt_two_pow (by omega) (by omega)
  exact i64_wrap_small (n := ((a ^^^ b : Nat) : Int)) (Int.natCast_nonneg _) (by omega)
end Go.Proofs.Ytgaalomhipfgjaa.P
namespace Go.Proofs.Ytgaalomhipfgjaa.P
open Go.RowKit Go.Proofs.YtgaalomhipfgjaaW.PrintWords Go.Proofs.YtgaalomhipfgjaaW.PrintLast Go.Proofs.YtgaalomhipfgjaaW.PrintMore
end Go.Proofs.Ytgaalomhipfgjaa.P
namespace Go.Proofs.Ytgaalomhipfgjaa.P
open Go.RowKit Go.Proofs.YtgaalomhipfgjaaW.PrintWords Go.Proofs.YtgaalomhipfgjaaW.PrintLast Go.Proofs.YtgaalomhipfgjaaW.PrintMore
def szM2 (a b : Nat) (left : Int) : Int := if left - a < 0 then -1 else if left - a - b < 0 then -1 else left - a - b
theorem szM2_ok {a b : Nat} {left : Int} (hl : left ≤ 1048576) (ha : a ≤ 9223372036854775807) (hb : b ≤ 9223372036854775807) (h : ¬ szM2 a b left < 0) : (a : Int) + b ≤ left ∧ szM2 a b left = left - a - b := by
  unfold szM2 at h ⊢
  split at h
  · omega
  · split at h
    · omega
    · rw [if_neg (by assumption), if_neg (by assumption)]
      omega
end Go.Proofs.Ytgaalomhipfgjaa.P
namespace Go.Proofs.Ytgaalomhipfgjaa.P
open Go.RowKit Go.Proofs.YtgaalomhipfgjaaW.PrintWords Go.Proofs.YtgaalomhipfgjaaW.PrintLast Go.Proofs.YtgaalomhipfgjaaW.PrintMore
def marksG {α : Type} (el : Int → α) (s : Int) : Int → Nat → List α
  | _, 0 => []
  | k, n + 1 => el k :: marksG el s (k + s) n
theorem marksG_length {α : Type} (el : Int → α) (s : Int) (n : Nat) : ∀ k : Int, (marksG el s k n).length = n := by
  induction n with
  | zero => intro k; rfl
  | succ n ih => intro k; simp [marksG, ih]
theorem marksG_get {α : Type} (el : Int → α) (s : Int) (n : Nat) : ∀ (k : Int) (i : Nat), i < n → (marksG el s k n)[i]? = some (el (k + s * i)) := by
  induction n with
  | zero => intro k i h; omega
  | succ n ih =>
    intro k i h
    cases i with
    | zero => simp [marksG]
    | succ i =>
      simp only [marksG, List.getElem?_cons_succ]
      rw [ih (k + s) i (by omega), show k + s + s * (i : Int) = k + s * ((i + 1 : Nat) : Int) by rw [Int.natCast_add, Int.mul_add]; simp; omega]
theorem marksG_succ {α : Type} (el : Int → α) (s : Int) (n : Nat) : ∀ k : Int, marksG el s k (n + 1) = marksG el s k n ++ [el (k + s * n)] := by
  induction n with
  | zero => intro k; simp [marksG]
  | succ n ih =>
    intro k
    rw [marksG, ih (k + s), marksG, List.cons_append, show k + s + s * (n : Int) = k + s * ((n + 1 : Nat) : Int) by rw [Int.natCast_add, Int.mul_add]; simp; omega]
theorem marksG_set {α : Type} (el : Int → α) (s : Int) (l : List α) (k : Int) (i : Nat) (h : i < l.length) : (marksG el s k i ++ l.drop i).set i (el (k + s * i)) = marksG el s k (i + 1) ++ l.drop (i + 1) := by
  rw [List.set_append, if_neg (by rw [marksG_length]; omega), marksG_length, Nat.sub_self, List.drop_eq_getElem_cons h, List.set_cons_zero, marksG_succ, List.append_assoc]
  rfl
theorem marksG_cut {α : Type} (el : Int → α) (s : Int) (l : List α) (k : Int) (i : Nat) (h : i ≤ l.length) : (marksG el s k i ++ l.drop i).length = l.length := by
  rw [List.length_append, marksG_length, List.length_drop]
  omega
theorem rdOf_nat (l : List ByteArray) (i : Nat) (h : i < l.length) : rdOf ByteArray.empty l (i : Int) = l[i] := by
  unfold rdOf
  simp [List.getD_eq_getElem?_getD, h]
theorem markText_loop (n : Nat) : ∀ s : ByteArray, s.size + n ≤ 9223372036854775000 → ∃ r, Ev (fun k => laws_markText.l0 k (n : Int) s) r := by
  induction n using Nat.strongRecOn with
  | _ n ih =>
    intro s hs
    rcases Nat.eq_zero_or_pos n with rfl | hn
    · refine ⟨_, Ev.up (Ev.now ((⟨#[109]⟩ : ByteArray) ++ s)) (fun k _ => ?_)⟩
      simp only [laws_markText.l0]
      rw [if_neg (by omega), if_pos (by omega)]
    · have hq : Int.tdiv (n : Int) 10 = ((n / 10 : Nat) : Int) := by rw [Int.tdiv_eq_ediv_of_nonneg (by omega)]; rfl
      have hz : ∀ x : Int, (strOfNums [x]).size = 1 := fun x => by rw [strOfNums_size]; rfl
      obtain ⟨r, hr⟩ := ih (n / 10) (by omega) (strOfNums [(wrap64 (48 + (Int.tmod (n : Int) 10))) % 256] ++ s) (by rw [ByteArray.size_append, hz]; omega)
      refine ⟨r, Ev.up hr (fun k hk => ?_)⟩
      simp only [laws_markText.l0, Option.bind_some]
      rw [if_pos (by omega), if_pos (by rw [hz]; omega), hq, w64 (by omega) (by omega)]
      exact hk
theorem markText_some (k : Int) (h : k ≤ 1000000000000000) : ∃ r, Ev (fun n => laws_markText.f n k) r := by
  by_cases c : k ≤ 0
  · refine ⟨_, (Ev.now (⟨#[109, 48]⟩ : ByteArray)).congr (fun n => ?_)⟩
    unfold laws_markText.f
    rw [if_pos c]
  · obtain ⟨m, rfl⟩ := Int.eq_ofNat_of_zero_le (show 0 ≤ k by omega)
    obtain ⟨r, hr⟩ := markText_loop m (⟨#[]⟩ : ByteArray) (by show 0 + m ≤ _; omega)
    refine ⟨r, hr.congr (fun n => ?_)⟩
    unfold laws_markText.f
    rw [if_neg c]
instance : Nonempty ByteArray := ⟨⟨#[]⟩⟩
noncomputable def mtx (k : Int) : ByteArray := Classical.epsilon (fun r => Ev (fun n => laws_markText.f n k) r)
theorem markText_ev (k : Int) (h : k ≤ 1000000000000000) : Ev (fun n => laws_markText.f n k) (mtx k) := Classical.epsilon_spec (markText_some k h)
theorem rd_26_nat (l : List S26) (i : Nat) (h : i < l.length) : rd_T26 l (i : Int) = l[i] := by
  unfold rd_T26
  simp [List.getD_eq_getElem?_getD, h]
theorem rd_26_set (l : List S26) (i : Nat) (h : i < l.length) (a : S26) : rd_T26 (l.set i a) (i : Int) = a := by
  rw [rd_26_nat _ i (by simpa using h)]
  simp
theorem eqPair_self (a0 : ByteArray) (a1 : ByteArray) : laws_eqPair.f a0 a1 a0 a1 = some true := by
  unfold laws_eqPair.f
  simp
theorem eqPairS_loop (l : List S26) (hn : l.length ≤ 1000000000000) : ∀ d i : Nat, l.length - i = d → i ≤ l.length → Ev (fun k => laws_eqPairS.l0 k l l (i : Int)) true := by
  intro d
  induction d with
  | zero =>
    intro i hd hi
    refine Ev.up (Ev.now true) (fun k _ => ?_)
    simp only [laws_eqPairS.l0]
    rw [if_neg (by omega)]
  | succ d ih =>
    intro i hd hi
    refine Ev.up (ih (i + 1) (by omega) (by omega)) (fun k h => ?_)
    simp only [laws_eqPairS.l0, eqPair_self, Option.bind_some]
    rw [if_pos (by omega), if_pos (by omega), if_pos (by omega), if_pos trivial, w64 (by omega) (by omega)]
    exact h
theorem eqPairS_ev (l : List S26) (hn : l.length ≤ 1000000000000) : Ev (fun k => laws_eqPairS.f k l l) true := by
  obtain ⟨K, hK⟩ := Ev.get (eqPairS_loop l hn _ 0 rfl (by omega))
  refine ⟨K, fun k hk => ?_⟩
  show laws_eqPairS.f k l l = some true
  unfold laws_eqPairS.f
  rw [if_pos rfl]
  exact hK k hk
noncomputable def elPair (k : Int) : S26 := ⟨mtx (k), mtx (k + 1)⟩
noncomputable def marksPair (k : Int) (n : Nat) : List S26 := marksG elPair 2 k n
theorem markPairS_loop (l : List S26) (k0 : Int) (h0 : 0 ≤ k0) (hk0 : k0 ≤ 100000000000000) (hn : l.length ≤ 1000000000000) : ∀ d i : Nat, l.length - i = d → i ≤ l.length →
    Ev (fun k => laws_markPairS.l0 k (marksPair k0 i ++ l.drop i) (k0 + 2 * (i : Int)) (i : Int)) (k0 + 2 * (l.length : Int), marksPair k0 l.length) := by
  intro d
  induction d with
  | zero =>
    intro i hd hi
    obtain rfl : i = l.length := by omega
    refine Ev.up (Ev.now (k0 + 2 * (l.length : Int), marksPair k0 l.length)) (fun k _ => ?_)
    simp only [laws_markPairS.l0]
    rw [if_neg (by unfold marksPair; rw [marksG_cut _ _ _ _ _ (Nat.le_refl _)]; omega), List.drop_length, List.append_nil]
  | succ d ih =>
    intro i hd hi
    obtain ⟨K0, e0⟩ := Ev.get (markText_ev ((k0 + 2 * (i : Int))) (by omega))
    obtain ⟨K1, e1⟩ := Ev.get (markText_ev ((k0 + 2 * (i : Int)) + 1) (by omega))
    obtain ⟨K9, e9⟩ := Ev.get (ih (i + 1) (by omega) (by omega))
    refine ⟨K0 + K1 + K9 + 1, fun k hk => ?_⟩
    obtain ⟨k, rfl⟩ : ∃ j, k = j + 1 := ⟨k - 1, by omega⟩
    have hl : (marksPair k0 i ++ l.drop i).length = l.length := marksG_cut _ _ _ _ _ (by omega)
    have hs : (marksPair k0 i ++ l.drop i).set i (elPair (k0 + 2 * (i : Int))) = marksPair k0 (i + 1) ++ l.drop (i + 1) := marksG_set _ _ _ _ _ (by omega)
    have hil : i < (marksPair k0 i ++ l.drop i).length := by omega
    show laws_markPairS.l0 (k + 1) _ _ _ = _
    generalize marksPair k0 i ++ l.drop i = X at hl hs hil ⊢
    simp only [laws_markPairS.l0]
    rw [if_pos (by omega), e0 _ (by omega), Option.bind_some, if_pos (by omega), Option.bind_some, Int.toNat_natCast, w64 (x := k0 + 2 * (i : Int) + 1) (by omega) (by omega), e1 _ (by omega), Option.bind_some, rd_26_set X i hil, List.set_set]
    rw [show X.set i (⟨mtx (k0 + 2 * (i : Int)), mtx (k0 + 2 * (i : Int) + 1)⟩ : S26) = X.set i (elPair (k0 + 2 * (i : Int))) from rfl, hs, w64 (by omega) (by omega), w64 (by omega) (by omega)]
    have e : k0 + 2 * (i : Int) + 1 + 1 = k0 + 2 * ((i + 1 : Nat) : Int) := by omega
    have e2 : ((i : Int) + 1) = ((i + 1 : Nat) : Int) := by omega
    rw [e, e2]
    exact e9 _ (by omega)
theorem markPairS_ev (l : List S26) (k0 : Int) (h0 : 0 ≤ k0) (hk0 : k0 ≤ 100000000000000) (hn : l.length ≤ 1000000000000) : Ev (fun k => laws_markPairS.f k l k0) (k0 + 2 * (l.length : Int), marksPair k0 l.length) := by
  obtain ⟨K, hK⟩ := Ev.get (markPairS_loop l k0 h0 hk0 hn _ 0 rfl (by omega))
  refine ⟨K, fun k hk => ?_⟩
  have h := hK k hk
  rw [show marksPair k0 0 = [] from rfl, List.nil_append, List.drop_zero, show k0 + 2 * ((0 : Nat) : Int) = k0 by omega] at h
  exact h
theorem marksPair_length (k : Int) (n : Nat) : (marksPair k n).length = n := marksG_length _ _ _ _
theorem heldPairS_loop (n : Nat) (k0 : Int) (h0 : 0 ≤ k0) (hk0 : k0 ≤ 100000000000000) (hn : n ≤ 1000000000000) : ∀ d i : Nat, n - i = d → i ≤ n →
    Ev (fun k => laws_heldPairS.l0 k (marksPair k0 n) (k0 + 2 * (i : Int)) (i : Int)) (k0 + 2 * (n : Int)) := by
  intro d
  induction d with
  | zero =>
    intro i hd hi
    obtain rfl : i = n := by omega
    refine Ev.up (Ev.now (k0 + 2 * (i : Int))) (fun k _ => ?_)
    simp only [laws_heldPairS.l0]
    rw [if_neg (by rw [marksPair_length]; omega)]
  | succ d ih =>
    intro i hd hi
    obtain ⟨K0, e0⟩ := Ev.get (markText_ev ((k0 + 2 * (i : Int))) (by omega))
    obtain ⟨K1, e1⟩ := Ev.get (markText_ev ((k0 + 2 * (i : Int)) + 1) (by omega))
    obtain ⟨K9, e9⟩ := Ev.get (ih (i + 1) (by omega) (by omega))
    refine ⟨K0 + K1 + K9 + 1, fun k hk => ?_⟩
    obtain ⟨k, rfl⟩ : ∃ j, k = j + 1 := ⟨k - 1, by omega⟩
    have hr : rd_T26 (marksPair k0 n) (i : Int) = elPair (k0 + 2 * (i : Int)) := by
      rw [rd_26_nat _ i (by rw [marksPair_length]; omega)]
      have := marksG_get elPair 2 n k0 i (by omega)
      exact (List.getElem?_eq_some_iff.1 this).2
    show laws_heldPairS.l0 (k + 1) _ _ _ = _
    simp only [laws_heldPairS.l0]
    rw [if_pos (by rw [marksPair_length]; omega), if_pos (by omega), hr]
    rw [e0 _ (by omega), Option.bind_some, if_pos (by rfl), w64 (x := k0 + 2 * (i : Int) + 1) (by omega) (by omega), e1 _ (by omega), Option.bind_some, if_pos (by rfl), w64 (by omega) (by omega), w64 (by omega) (by omega)]
    have e : k0 + 2 * (i : Int) + 1 + 1 = k0 + 2 * ((i + 1 : Nat) : Int) := by omega
    have e2 : ((i : Int) + 1) = ((i + 1 : Nat) : Int) := by omega
    rw [e, e2]
    exact e9 _ (by omega)
theorem heldPairS_ev (n : Nat) (k0 : Int) (h0 : 0 ≤ k0) (hk0 : k0 ≤ 100000000000000) (hn : n ≤ 1000000000000) : Ev (fun k => laws_heldPairS.f k (marksPair k0 n) k0) (k0 + 2 * (n : Int)) := by
  obtain ⟨K, hK⟩ := Ev.get (heldPairS_loop n k0 h0 hk0 hn _ 0 rfl (by omega))
  refine ⟨K, fun k hk => ?_⟩
  have h := hK k hk
  rw [show k0 + 2 * ((0 : Nat) : Int) = k0 by omega] at h
  exact h
theorem toStringS_loop (x0 : List ByteArray) (hn : x0.length ≤ 1000000000000) : ∀ d i : Nat, x0.length - i = d → i ≤ x0.length →
    Ev (fun k => laws_toStringS.l0 k x0 ((x0.take i).map id ++ List.replicate (x0.length - i) (⟨#[]⟩ : ByteArray)) (i : Int)) x0 := by
  intro d
  induction d with
  | zero =>
    intro i hd hi
    obtain rfl : i = x0.length := by omega
    refine Ev.up (Ev.now x0) (fun k _ => ?_)
    simp only [laws_toStringS.l0]
    rw [if_neg (by omega), copy_end]
    simp
  | succ d ih =>
    intro i hd hi
    refine Ev.up (ih (i + 1) (by omega) (by omega)) (fun k h => ?_)
    have hl := copy_len x0 id (⟨#[]⟩ : ByteArray) i hi
    have hs := copy_step x0 id (⟨#[]⟩ : ByteArray) i (by omega)
    simp only [laws_toStringS.l0]
    rw [if_pos (by omega), if_pos (by omega), if_pos (by rw [hl]; omega), rdOf_nat x0 i (by omega), Int.toNat_natCast, w64 (by omega) (by omega)]
    rw [id] at hs
    rw [hs]
    exact h
theorem toStringS_ev (l : List ByteArray) (hn : l.length ≤ 1000000000000) : Ev (fun k => laws_toStringS.f k l) l := by
  obtain ⟨K, hK⟩ := Ev.get (toStringS_loop l hn _ 0 rfl (by omega))
  refine ⟨K, fun k hk => ?_⟩
  have h := hK k hk
  show laws_toStringS.f k l = some l
  unfold laws_toStringS.f
  rw [if_pos (by omega), if_pos (by omega), Int.toNat_natCast, copy_start l id]
  exact h
theorem eqStringS_loop (l : List ByteArray) (hn : l.length ≤ 1000000000000) : ∀ d i : Nat, l.length - i = d → i ≤ l.length → Ev (fun k => laws_eqStringS.l0 k l l (i : Int)) true := by
  intro d
  induction d with
  | zero =>
    intro i hd hi
    refine Ev.up (Ev.now true) (fun k _ => ?_)
    simp only [laws_eqStringS.l0]
    rw [if_neg (by omega)]
  | succ d ih =>
    intro i hd hi
    refine Ev.up (ih (i + 1) (by omega) (by omega)) (fun k h => ?_)
    simp only [laws_eqStringS.l0]
    rw [if_pos (by omega), if_pos (by omega), if_pos (by omega), if_pos trivial, w64 (by omega) (by omega)]
    exact h
theorem eqStringS_ev (l : List ByteArray) (hn : l.length ≤ 1000000000000) : Ev (fun k => laws_eqStringS.f k l l) true := by
  obtain ⟨K, hK⟩ := Ev.get (eqStringS_loop l hn _ 0 rfl (by omega))
  refine ⟨K, fun k hk => ?_⟩
  show laws_eqStringS.f k l l = some true
  unfold laws_eqStringS.f
  rw [if_pos rfl]
  exact hK k hk
noncomputable def marksStr (k : Int) (n : Nat) : List ByteArray := marksG mtx 1 k n
theorem markStringS_loop (l : List ByteArray) (k0 : Int) (h0 : 0 ≤ k0) (hk0 : k0 ≤ 100000000000000) (hn : l.length ≤ 1000000000000) : ∀ d i : Nat, l.length - i = d → i ≤ l.length →
    Ev (fun k => laws_markStringS.l0 k (marksStr k0 i ++ l.drop i) (k0 + 1 * (i : Int)) (i : Int)) (k0 + (l.length : Int), marksStr k0 l.length) := by
  intro d
  induction d with
  | zero =>
    intro i hd hi
    obtain rfl : i = l.length := by omega
    refine Ev.up (Ev.now (k0 + (l.length : Int), marksStr k0 l.length)) (fun k _ => ?_)
    simp only [laws_markStringS.l0]
    rw [if_neg (by unfold marksStr; rw [marksG_cut _ _ _ _ _ (Nat.le_refl _)]; omega), List.drop_length, List.append_nil, Int.one_mul]
  | succ d ih =>
    intro i hd hi
    obtain ⟨K0, e0⟩ := Ev.get (markText_ev (k0 + 1 * (i : Int)) (by omega))
    obtain ⟨K9, e9⟩ := Ev.get (ih (i + 1) (by omega) (by omega))
    refine ⟨K0 + K9 + 1, fun k hk => ?_⟩
    obtain ⟨k, rfl⟩ : ∃ j, k = j + 1 := ⟨k - 1, by omega⟩
    have hl : (marksStr k0 i ++ l.drop i).length = l.length := marksG_cut _ _ _ _ _ (by omega)
    have hs : (marksStr k0 i ++ l.drop i).set i (mtx (k0 + 1 * (i : Int))) = marksStr k0 (i + 1) ++ l.drop (i + 1) := marksG_set _ _ _ _ _ (by omega)
    show laws_markStringS.l0 (k + 1) _ _ _ = _
    simp only [laws_markStringS.l0]
    rw [if_pos (by rw [hl]; omega), e0 _ (by omega), Option.bind_some, if_pos (by omega), Int.toNat_natCast, hs, w64 (by omega) (by omega), w64 (by omega) (by omega)]
    have e : k0 + 1 * (i : Int) + 1 = k0 + 1 * ((i + 1 : Nat) : Int) := by omega
    have e2 : ((i : Int) + 1) = ((i + 1 : Nat) : Int) := by omega
    rw [e, e2]
    exact e9 _ (by omega)
theorem markStringS_ev (l : List ByteArray) (k0 : Int) (h0 : 0 ≤ k0) (hk0 : k0 ≤ 100000000000000) (hn : l.length ≤ 1000000000000) : Ev (fun k => laws_markStringS.f k l k0) (k0 + (l.length : Int), marksStr k0 l.length) := by
  obtain ⟨K, hK⟩ := Ev.get (markStringS_loop l k0 h0 hk0 hn _ 0 rfl (by omega))
  refine ⟨K, fun k hk => ?_⟩
  have h := hK k hk
  rw [show marksStr k0 0 = [] from rfl, List.nil_append, List.drop_zero, show k0 + 1 * ((0 : Nat) : Int) = k0 by omega] at h
  exact h
def szStrL : List ByteArray → Int → Int
  | [], left => left
  | s :: l, left => if left - s.size < 0 then -1 else szStrL l (left - s.size)
def szStrM (l : List ByteArray) (left : Int) : Int := if left - l.length < 0 then -1 else szStrL l (left - l.length)
theorem szStrL_ok : ∀ (l : List ByteArray) (left : Int), ¬ szStrL l left < 0 → szStrL l left + ((l.map ByteArray.size).sum : Nat) = left := by
  intro l
  induction l with
  | nil => intro left _; simp [szStrL]
  | cons s l ih =>
    intro left h
    rw [szStrL] at h ⊢
    split at h
    · omega
    · rename_i c
      rw [if_neg c]
      have := ih _ h
      simp only [List.map_cons, List.sum_cons]
      omega
theorem szStrM_ok {l : List ByteArray} {left : Int} (h : ¬ szStrM l left < 0) : szStrM l left + l.length + ((l.map ByteArray.size).sum : Nat) = left := by
  unfold szStrM at h ⊢
  split at h
  · omega
  · rename_i c
    rw [if_neg c]
    have := szStrL_ok l _ h
    omega
theorem szStringS_loop (l : List ByteArray) (hn : l.length ≤ 1048576) (hp : ∀ s ∈ l, s.size ≤ 9223372036854775807) : ∀ (d i : Nat) (left : Int), l.length - i = d → i ≤ l.length → 0 ≤ left → left ≤ 1048576 →
    Ev (fun k => laws_szStringS.l0 k l left (i : Int)) (szStrL (l.drop i) left) := by
  intro d
  induction d with
  | zero =>
    intro i left hd hi h0 h1
    refine Ev.up (Ev.now _) (fun k _ => ?_)
    simp only [laws_szStringS.l0]
    rw [if_neg (by omega), List.drop_eq_nil_of_le (by omega)]
    rfl
  | succ d ih =>
    intro i left hd hi h0 h1
    have hil : i < l.length := by omega
    have hq := hp l[i] (List.getElem_mem hil)
    rw [List.drop_eq_getElem_cons hil, szStrL]
    by_cases c : left - (l[i].size : Int) < 0
    · rw [if_pos c]
      refine Ev.up (Ev.now (-1)) (fun k _ => ?_)
      simp only [laws_szStringS.l0]
      rw [if_pos (by omega), if_pos (by omega), rdOf_nat l i hil, w64 (by omega) (by omega), if_pos c]
    · rw [if_neg c]
      refine Ev.up (ih (i + 1) _ (by omega) (by omega) (by omega) (by omega)) (fun k hk => ?_)
      simp only [laws_szStringS.l0]
      rw [if_pos (by omega), if_pos (by omega), rdOf_nat l i hil, w64 (by omega) (by omega), if_neg c, w64 (by omega) (by omega)]
      exact hk
theorem szStringS_ev (l : List ByteArray) (left : Int) (h0 : -1 ≤ left) (h1 : left ≤ 1048576) (hl : l.length ≤ 9223372036854775807) (hp : ∀ s ∈ l, s.size ≤ 9223372036854775807) : Ev (fun k => laws_szStringS.f k l left) (szStrM l left) := by
  unfold szStrM
  by_cases c : left - (l.length : Int) < 0
  · rw [if_pos c]
    refine (Ev.now (-1)).congr (fun k => ?_)
    unfold laws_szStringS.f
    rw [w64 (by omega) (by omega), if_pos c]
  · rw [if_neg c]
    refine (szStringS_loop l (by omega) hp _ 0 _ rfl (by omega) (by omega) (by omega)).congr (fun k => ?_)
    unfold laws_szStringS.f
    rw [w64 (by omega) (by omega), if_neg c]
    rfl
end Go.Proofs.Ytgaalomhipfgjaa.P
namespace Go.Proofs.Ytgaalomhipfgjaa.P
open Go.RowKit Go.Proofs.YtgaalomhipfgjaaW.PrintWords Go.Proofs.YtgaalomhipfgjaaW.PrintLast Go.Proofs.YtgaalomhipfgjaaW.PrintMore
theorem rd_63_nat (l : List S63) (i : Nat) (h : i < l.length) : rd_T63 l (i : Int) = l[i] := by
  unfold rd_T63
  simp [List.getD_eq_getElem?_getD, h]
theorem rd_131_nat (l : List S131) (i : Nat) (h : i < l.length) : rd_T131 l (i : Int) = l[i] := by
  unfold rd_T131
  simp [List.getD_eq_getElem?_getD, h]
def cvtItem (p : S131) : S63 := ⟨⟨p.f0.f0, p.f0.f1⟩, p.f1⟩
theorem toItemS_loop (x0 : List S131) (hn : x0.length ≤ 100000000) (hp : ∀ p ∈ x0, p.f1.length ≤ 100000000) : ∀ d i : Nat, x0.length - i = d → i ≤ x0.length →
    Ev (fun k => laws_toItemS.l0 k x0 ((x0.take i).map cvtItem ++ List.replicate (x0.length - i) z63) (i : Int)) (x0.map cvtItem) := by
  intro d
  induction d with
  | zero =>
    intro i hd hi
    obtain rfl : i = x0.length := by omega
    refine Ev.up (Ev.now (x0.map cvtItem)) (fun k _ => ?_)
    simp only [laws_toItemS.l0]
    rw [if_neg (by omega), copy_end]
  | succ d ih =>
    intro i hd hi
    have hil : i < x0.length := by omega
    obtain ⟨K1, e1⟩ := Ev.get (toStringS_ev x0[i].f1 (by have := hp _ (List.getElem_mem hil); omega))
    obtain ⟨K2, e2⟩ := Ev.get (ih (i + 1) (by omega) (by omega))
    refine ⟨K1 + K2 + 1, fun k hk => ?_⟩
    obtain ⟨k, rfl⟩ : ∃ j, k = j + 1 := ⟨k - 1, by omega⟩
    have h := e2 k (by omega)
    have hl := copy_len x0 cvtItem z63 i hi
    have hs := copy_step x0 cvtItem z63 i (by omega)
    show laws_toItemS.l0 (k + 1) _ _ _ = _
    simp only [laws_toItemS.l0, laws_toItem.f, laws_toPair.f, Option.bind_some]
    rw [if_pos (by omega), if_pos (by omega), rd_131_nat x0 i (by omega), e1 k (by omega), Option.bind_some, Option.bind_some, if_pos (by rw [hl]; omega), Int.toNat_natCast, w64 (by omega) (by omega)]
    rw [cvtItem] at hs
    rw [hs]
    exact h
theorem toItemS_ev (l : List S131) (hn : l.length ≤ 100000000) (hp : ∀ p ∈ l, p.f1.length ≤ 100000000) : Ev (fun k => laws_toItemS.f k l) (l.map cvtItem) := by
  obtain ⟨K, hK⟩ := Ev.get (toItemS_loop l hn hp _ 0 rfl (by omega))
  refine ⟨K, fun k hk => ?_⟩
  have h := hK k hk
  show laws_toItemS.f k l = _
  unfold laws_toItemS.f
  rw [if_pos (by omega), if_pos (by omega), Int.toNat_natCast, copy_start l cvtItem]
  exact h
theorem toProof_ev (a b : Int) (l : List S131) (hn : l.length ≤ 100000000) (hp : ∀ p ∈ l, p.f1.length ≤ 100000000) : Ev (fun k => laws_toProof.f k a b l) (a, b, l.map cvtItem) := by
  obtain ⟨K, e⟩ := Ev.get (toItemS_ev l hn hp)
  refine ⟨K, fun k hk => ?_⟩
  show laws_toProof.f k a b l = _
  unfold laws_toProof.f
  rw [e k hk, Option.bind_some]
def szItM (p : S131) (left : Int) : Int := if szM2 p.f0.f0.size p.f0.f1.size left < 0 then -1 else if szStrM p.f1 (szM2 p.f0.f0.size p.f0.f1.size left) < 0 then -1 else szStrM p.f1 (szM2 p.f0.f0.size p.f0.f1.size left)
def OkIt (p : S131) : Prop := (p.f0.f0.size ≤ 9223372036854775807 ∧ p.f0.f1.size ≤ 9223372036854775807) ∧ p.f1.length ≤ 9223372036854775807 ∧ ∀ s ∈ p.f1, s.size ≤ 9223372036854775807
theorem sum_mem : ∀ (l : List ByteArray) (s : ByteArray), s ∈ l → s.size ≤ (l.map ByteArray.size).sum := by
  intro l
  induction l with
  | nil => intro s h; cases h
  | cons x l ih =>
    intro s h
    rw [List.map_cons, List.sum_cons]
    rcases List.mem_cons.1 h with rfl | h
    · omega
    · have := ih s h; omega
theorem szItM_ok {p : S131} {left : Int} (h1 : left ≤ 1048576) (hp : OkIt p) (h : ¬ szItM p left < 0) : szItM p left ≤ left ∧ (p.f0.f0.size : Int) + p.f0.f1.size ≤ left ∧ (p.f1.length : Int) ≤ left ∧ ∀ s ∈ p.f1, (s.size : Int) ≤ left := by
  unfold szItM at h ⊢
  by_cases c : szM2 p.f0.f0.size p.f0.f1.size left < 0
  · rw [if_pos c] at h; omega
  · rw [if_neg c] at h ⊢
    obtain ⟨h3, h4⟩ := szM2_ok h1 hp.1.1 hp.1.2 c
    by_cases c2 : szStrM p.f1 (szM2 p.f0.f0.size p.f0.f1.size left) < 0
    · rw [if_pos c2] at h; omega
    · rw [if_neg c2]
      have h5 := szStrM_ok c2
      refine ⟨by omega, h3, by omega, fun s hs => ?_⟩
      have := sum_mem p.f1 s hs
      omega
theorem szItem_ev (p : S131) (left : Int) (h0 : 0 ≤ left) (h1 : left ≤ 1048576) (hp : OkIt p) : Ev (fun k => laws_szItem.f k p.f0.f0 p.f0.f1 p.f1 left) (szItM p left) := by
  unfold szItM
  have he : laws_szPair.f p.f0.f0 p.f0.f1 left = some (szM2 p.f0.f0.size p.f0.f1.size left) := by
    have ha := hp.1.1
    have hb := hp.1.2
    unfold laws_szPair.f szM2
    rw [w64 (x := left - (p.f0.f0.size : Int)) (by omega) (by omega)]
    by_cases c : left - (p.f0.f0.size : Int) < 0
    · rw [if_pos c, if_pos c]
    · rw [if_neg c, if_neg c, w64 (by omega) (by omega)]
      by_cases c2 : left - (p.f0.f0.size : Int) - (p.f0.f1.size : Int) < 0
      · rw [if_pos c2, if_pos c2]
      · rw [if_neg c2, if_neg c2]
  by_cases c : szM2 p.f0.f0.size p.f0.f1.size left < 0
  · rw [if_pos c]
    refine (Ev.now (-1)).congr (fun k => ?_)
    unfold laws_szItem.f
    rw [he, Option.bind_some, if_pos c]
  · rw [if_neg c]
    obtain ⟨h3, h4⟩ := szM2_ok h1 hp.1.1 hp.1.2 c
    obtain ⟨K, e⟩ := Ev.get (szStringS_ev p.f1 (szM2 p.f0.f0.size p.f0.f1.size left) (by omega) (by omega) hp.2.1 hp.2.2)
    refine ⟨K, fun k hk => ?_⟩
    show laws_szItem.f k p.f0.f0 p.f0.f1 p.f1 left = _
    unfold laws_szItem.f
    rw [he, Option.bind_some, if_neg c, e k hk, Option.bind_some]
    split <;> rfl
def szItL : List S131 → Int → Int
  | [], left => left
  | p :: l, left => if szItM p left < 0 then -1 else szItL l (szItM p left)
def szItSM (l : List S131) (left : Int) : Int := if left - l.length < 0 then -1 else szItL l (left - l.length)
def SmallIt (left : Int) (p : S131) : Prop := (p.f0.f0.size : Int) + p.f0.f1.size ≤ left ∧ (p.f1.length : Int) ≤ left ∧ ∀ s ∈ p.f1, (s.size : Int) ≤ left
theorem szItL_ok : ∀ (l : List S131) (left : Int), left ≤ 1048576 → (∀ p ∈ l, OkIt p) → ¬ szItL l left < 0 → szItL l left ≤ left ∧ ∀ p ∈ l, SmallIt left p := by
  intro l
  induction l with
  | nil => intro left _ _ _; exact ⟨Int.le_refl _, fun p hp => by cases hp⟩
  | cons p l ih =>
    intro left h1 hp h
    rw [szItL] at h ⊢
    have h2 := hp p List.mem_cons_self
    split at h
    · omega
    · rename_i c
      rw [if_neg c]
      obtain ⟨h3, h4⟩ := szItM_ok h1 h2 c
      obtain ⟨h5, h6⟩ := ih _ (by omega) (fun q hq => hp q (List.mem_cons_of_mem _ hq)) h
      refine ⟨by omega, fun q hq => ?_⟩
      rcases List.mem_cons.1 hq with rfl | hq
      · exact h4
      · obtain ⟨g1, g2, g3⟩ := h6 q hq
        exact ⟨by omega, by omega, fun s hs => by have := g3 s hs; omega⟩
theorem szItSM_ok {l : List S131} {left : Int} (h1 : left ≤ 1048576) (hp : ∀ p ∈ l, OkIt p) (h : ¬ szItSM l left < 0) : (l.length : Int) ≤ left ∧ ∀ p ∈ l, SmallIt left p := by
  unfold szItSM at h
  split at h
  · omega
  · rename_i c
    obtain ⟨h2, h3⟩ := szItL_ok l _ (by omega) hp h
    refine ⟨by omega, fun p hq => ?_⟩
    obtain ⟨g1, g2, g3⟩ := h3 p hq
    exact ⟨by omega, by omega, fun s hs => by have := g3 s hs; omega⟩
theorem szItemS_loop (l : List S131) (hn : l.length ≤ 1048576) (hp : ∀ p ∈ l, OkIt p) : ∀ (d i : Nat) (left : Int), l.length - i = d → i ≤ l.length → 0 ≤ left → left ≤ 1048576 →
    Ev (fun k => laws_szItemS.l0 k l left (i : Int)) (szItL (l.drop i) left) := by
  intro d
  induction d with
  | zero =>
    intro i left hd hi h0 h1
    refine Ev.up (Ev.now _) (fun k _ => ?_)
    simp only [laws_szItemS.l0]
    rw [if_neg (by omega), List.drop_eq_nil_of_le (by omega)]
    rfl
  | succ d ih =>
    intro i left hd hi h0 h1
    have hil : i < l.length := by omega
    have hq := hp l[i] (List.getElem_mem hil)
    obtain ⟨K1, e1⟩ := Ev.get (szItem_ev l[i] left h0 h1 hq)
    rw [List.drop_eq_getElem_cons hil, szItL]
    by_cases c : szItM l[i] left < 0
    · rw [if_pos c]
      refine ⟨K1 + 1, fun k hk => ?_⟩
      obtain ⟨k, rfl⟩ : ∃ j, k = j + 1 := ⟨k - 1, by omega⟩
      show laws_szItemS.l0 (k + 1) _ _ _ = _
      simp only [laws_szItemS.l0]
      rw [if_pos (by omega), if_pos (by omega), rd_131_nat l i hil, e1 k (by omega), Option.bind_some, if_pos c]
    · rw [if_neg c]
      obtain ⟨h3, h4⟩ := szItM_ok h1 hq c
      obtain ⟨K2, e2⟩ := Ev.get (ih (i + 1) _ (by omega) (by omega) (by omega : 0 ≤ szItM l[i] left) (by omega))
      refine ⟨K1 + K2 + 1, fun k hk => ?_⟩
      obtain ⟨k, rfl⟩ : ∃ j, k = j + 1 := ⟨k - 1, by omega⟩
      have hx := e2 k (by omega)
      show laws_szItemS.l0 (k + 1) _ _ _ = _
      simp only [laws_szItemS.l0]
      rw [if_pos (by omega), if_pos (by omega), rd_131_nat l i hil, e1 k (by omega), Option.bind_some, if_neg c, w64 (by omega) (by omega)]
      exact hx
theorem szProof_ev (a b : Int) (l : List S131) (hl : l.length ≤ 9223372036854775807) (hp : ∀ p ∈ l, OkIt p) : Ev (fun k => laws_szProof.f k a b l 1048576) (if szItSM l 1048576 < 0 then -1 else szItSM l 1048576) := by
  have h1 : Ev (fun k => laws_szItemS.f k l 1048576) (szItSM l 1048576) := by
    unfold szItSM
    by_cases c : (1048576 : Int) - (l.length : Int) < 0
    · rw [if_pos c]
      refine (Ev.now (-1)).congr (fun k => ?_)
      unfold laws_szItemS.f
      rw [w64 (by omega) (by omega), if_pos c]
    · rw [if_neg c]
      refine (szItemS_loop l (by omega) hp _ 0 _ rfl (by omega) (by omega) (by omega)).congr (fun k => ?_)
      unfold laws_szItemS.f
      rw [w64 (by omega) (by omega), if_neg c]
      rfl
  obtain ⟨K, e⟩ := Ev.get h1
  refine ⟨K, fun k hk => ?_⟩
  show laws_szProof.f k a b l 1048576 = _
  unfold laws_szProof.f
  rw [e k hk, Option.bind_some]
  split <;> rfl
end Go.Proofs.Ytgaalomhipfgjaa.P
namespace Go.Proofs.Ytgaalomhipfgjaa.P
open Go.RowKit Go.Proofs.YtgaalomhipfgjaaW.PrintWords Go.Proofs.YtgaalomhipfgjaaW.PrintLast Go.Proofs.YtgaalomhipfgjaaW.PrintMore
def encN (n : Nat) : List Int := if n > 127 then ((n % 128 + 128 : Nat) : Int) :: encN (n / 128) else [(n : Int)]
termination_by n
decreasing_by omega
theorem encN_big {n : Nat} (h : 127 < n) : encN n = ((n % 128 + 128 : Nat) : Int) :: encN (n / 128) := by
  rw [encN, if_pos h]
theorem encN_small {n : Nat} (h : n ≤ 127) : encN n = [(n : Int)] := by
  rw [encN, if_neg (by omega)]
theorem encN_by (n : Nat) : By (encN n) := by
  induction n using Nat.strongRecOn with
  | _ n ih =>
    by_cases h : 127 < n
    · rw [encN_big h]
      exact By.app (a := [_]) (By.one (by omega) (by omega)) (ih (n / 128) (by omega))
    · rw [encN_small (by omega)]
      exact By.one (by omega) (by omega)
theorem encN_len5 (n : Nat) (h : n ≤ 1000000000) : (encN n).length ≤ 5 := by
  by_cases h1 : 127 < n
  · rw [encN_big h1]
    by_cases h2 : 127 < n / 128
    · rw [encN_big h2]
      by_cases h3 : 127 < n / 128 / 128
      · rw [encN_big h3]
        by_cases h4 : 127 < n / 128 / 128 / 128
        · rw [encN_big h4]
          rw [encN_small (by omega)]
          simp
        · rw [encN_small (by omega)]; simp
      · rw [encN_small (by omega)]; simp
    · rw [encN_small (by omega)]; simp
  · rw [encN_small (by omega)]; simp
def clampN (n : Int) : Nat := if n > 1000000000 then 1000000000 else if n < 0 then 0 else n.toNat
theorem clampN_le (n : Int) : clampN n ≤ 1000000000 := by unfold clampN; (repeat' split) <;> omega
def putNumM (b : List Int) (n : Int) : List Int := b ++ encN (clampN n)
def putTextM (b : List Int) (s : ByteArray) : List Int := putNumM b s.size ++ bytesOf s
theorem putNumM_by {b : List Int} (h : By b) (n : Int) : By (putNumM b n) := By.app h (encN_by _)
theorem putTextM_by {b : List Int} (h : By b) (s : ByteArray) : By (putTextM b s) := By.app (putNumM_by h _) (By.bytesOf s)
theorem putNumM_len (b : List Int) (n : Int) : (putNumM b n).length ≤ b.length + 5 := by
  have := encN_len5 _ (clampN_le n)
  simp [putNumM]
  omega
theorem putTextM_len (b : List Int) (s : ByteArray) : (putTextM b s).length ≤ b.length + 5 + s.size := by
  have := putNumM_len b s.size
  simp [putTextM, bytesOf_length]
  omega
theorem or_enc (x : Nat) : (Go.bits .or .i64 128 (Go.bits .and .i64 (x : Int) 127)) % 256 = ((x % 128 + 128 : Nat) : Int) := by
  rw [i64_and127]
  have e : ((x : Int) % 128) = ((x % 128 : Nat) : Int) := by omega
  rw [e]
  have := i64_or_nat 128 (x % 128) (by omega) (by omega)
  rw [show (128 : Int) = ((128 : Nat) : Int) from rfl, this, nat_join 7 128 (x % 128) (by decide) (by omega)]
  omega
theorem or_enc' (x : Nat) : (Go.bits .or .i64 (Go.bits .and .i64 (x : Int) 127) 128) % 256 = ((x % 128 + 128 : Nat) : Int) := by
  rw [i64_and127]
  have e : ((x : Int) % 128) = ((x % 128 : Nat) : Int) := by omega
  rw [e]
  have := i64_or_nat (x % 128) 128 (by omega) (by omega)
  rw [show (128 : Int) = ((128 : Nat) : Int) from rfl, this, Nat.or_comm, nat_join 7 128 (x % 128) (by decide) (by omega)]
  omega
theorem impl_putNum_loop (n : Nat) : ∀ b : List Int, b.length + n < 140737488355328 → Ev (fun k => impl_putNum.l0 k b (n : Int)) (b ++ encN n) := by
  induction n using Nat.strongRecOn with
  | _ n ih =>
    intro b hb
    by_cases h : 127 < n
    · refine Ev.up ((ih (n / 128) (by omega) (b ++ [((n % 128 + 128 : Nat) : Int)]) (by simp; omega)).cast (by rw [encN_big h, List.append_assoc]; rfl)) (fun k hk => ?_)
      simp only [impl_putNum.l0]
      rw [if_pos (by omega), if_pos (by omega), or_enc, show (n : Int) / 128 = ((n / 128 : Nat) : Int) from rfl]
      exact hk
    · refine Ev.up (Ev.now (b ++ encN n)) (fun k _ => ?_)
      simp only [impl_putNum.l0]
      rw [if_neg (by omega), if_pos (by omega), encN_small (by omega), show (n : Int) % 256 = n by omega]
theorem impl_putNum_ev (b : List Int) (n : Int) (hb : b.length ≤ 100000000000000) : Ev (fun k => impl_putNum.f k b n) (putNumM b n) := by
  have h := impl_putNum_loop (clampN n) b (by have := clampN_le n; omega)
  have e : mx 0 (mn n 1000000000) = (clampN n : Int) := by
    unfold mx mn clampN
    repeat' split
    all_goals omega
  refine h.congr (fun k => ?_)
  unfold impl_putNum.f
  rw [e]
theorem impl_putText_ev (b : List Int) (s : ByteArray) (hb : b.length ≤ 100000000000000) (hs : s.size ≤ 10000000000000) : Ev (fun k => impl_putText.f k b s) (putTextM b s) := by
  obtain ⟨K, hK⟩ := Ev.get (impl_putNum_ev b s.size hb)
  refine ⟨K, fun k hk => ?_⟩
  show impl_putText.f k b s = _
  unfold impl_putText.f
  have hl := putNumM_len b s.size
  rw [hK k hk, Option.bind_some, if_pos (by omega)]
  rfl
theorem spec_PutNum_loop (n : Nat) : ∀ b : List Int, b.length + n < 140737488355328 → Ev (fun k => spec_PutNum.l0 k (n : Int) b) (b ++ encN n) := by
  induction n using Nat.strongRecOn with
  | _ n ih =>
    intro b hb
    by_cases h : 127 < n
    · refine Ev.up ((ih (n / 128) (by omega) (b ++ [((n % 128 + 128 : Nat) : Int)]) (by simp; omega)).cast (by rw [encN_big h, List.append_assoc]; rfl)) (fun k hk => ?_)
      simp only [spec_PutNum.l0]
      rw [if_pos (by omega), if_pos (by omega), or_enc', show (n : Int) / 128 = ((n / 128 : Nat) : Int) from rfl]
      exact hk
    · refine Ev.up (Ev.now (b ++ encN n)) (fun k _ => ?_)
      simp only [spec_PutNum.l0]
      rw [if_neg (by omega), if_pos (by omega), encN_small (by omega), show (n : Int) % 256 = n by omega]
theorem spec_PutNum_ev (b : List Int) (n : Int) (hb : b.length ≤ 100000000000000) : Ev (fun k => spec_PutNum.f k b n) (putNumM b n) := by
  have h := spec_PutNum_loop (clampN n) b (by have := clampN_le n; omega)
  have h1 : Ev (fun k => spec_PutNum.j1 k (clampN n : Int) b) (putNumM b n) := Ev.up h (fun k hk => by simp only [spec_PutNum.j1]; exact hk)
  have h0 : Ev (fun k => if n > 1000000000 then spec_PutNum.j0 k 1000000000 b else spec_PutNum.j0 k n b) (putNumM b n) := by
    by_cases c : n > 1000000000
    · have e : (clampN n : Int) = 1000000000 := by unfold clampN; rw [if_pos c]; rfl
      rw [e] at h1
      refine (Ev.up (g := fun k => spec_PutNum.j0 k 1000000000 b) h1 (fun k hk => ?_)).congr (fun k => by rw [if_pos c])
      simp only [spec_PutNum.j0]
      rw [if_neg (by omega)]
      exact hk
    · refine (Ev.up (g := fun k => spec_PutNum.j0 k n b) h1 (fun k hk => ?_)).congr (fun k => by rw [if_neg c])
      simp only [spec_PutNum.j0]
      by_cases c2 : n < 0
      · have e : (clampN n : Int) = 0 := by unfold clampN; rw [if_neg c, if_pos c2]; rfl
        rw [e] at hk
        rw [if_pos c2]
        exact hk
      · have e : (clampN n : Int) = n := by unfold clampN; rw [if_neg c, if_neg c2]; omega
        rw [e] at hk
        rw [if_neg c2]
        exact hk
  refine h0.congr (fun k => ?_)
  unfold spec_PutNum.f
  simp only [Option.bind_some, List.nil_append, List.length_nil]
  rw [if_pos (by omega)]
theorem spec_PutText_ev (b : List Int) (s : ByteArray) (hb : b.length ≤ 100000000000000) (hs : s.size ≤ 10000000000000) : Ev (fun k => spec_PutText.f k b s) (putTextM b s) := by
  obtain ⟨K, hK⟩ := Ev.get (spec_PutNum_ev b s.size hb)
  refine ⟨K, fun k hk => ?_⟩
  show spec_PutText.f k b s = _
  unfold spec_PutText.f
  have hl := putNumM_len b s.size
  rw [hK k hk, Option.bind_some, if_pos (by omega)]
  rfl
end Go.Proofs.Ytgaalomhipfgjaa.P
namespace Go.Proofs.Ytgaalomhipfgjaa.P
open Go.RowKit Go.Proofs.YtgaalomhipfgjaaW.PrintWords Go.Proofs.YtgaalomhipfgjaaW.PrintLast Go.Proofs.YtgaalomhipfgjaaW.PrintMore
def lenM (n : Int) : Nat → List Int
  | 0 => []
  | i + 1 => (n / 2 ^ (8 * i)) % 256 :: lenM n i
def zerosM (n : Nat) : Nat := (119 - n % 64) % 64
def padM (l : List Int) : List Int := l ++ [128] ++ List.replicate (zerosM l.length) 0 ++ lenM (8 * (l.length : Int)) 8
theorem lenM_length (n : Int) (i : Nat) : (lenM n i).length = i := by
  induction i with
  | zero => rfl
  | succ i ih => simp [lenM, ih]
theorem lenM_by (n : Int) (i : Nat) : By (lenM n i) := by
  induction i with
  | zero => exact By.nil
  | succ i ih => exact By.app (a := [_]) (By.one (by omega) (by omega)) ih
theorem padM_by {l : List Int} (h : By l) : By (padM l) := by
  refine By.app (By.app (By.app h (By.one (by omega) (by omega))) (fun x hx => ?_)) (lenM_by _ _)
  rw [List.eq_of_mem_replicate hx]
  omega
theorem padM_length (l : List Int) : (padM l).length = l.length + 1 + zerosM l.length + 8 := by
  simp [padM, lenM_length]
  omega
theorem padM_mod (l : List Int) : (padM l).length % 64 = 0 := by
  rw [padM_length]
  unfold zerosM
  omega
theorem padM_len_le (l : List Int) : (padM l).length ≤ l.length + 72 := by
  rw [padM_length]
  unfold zerosM
  omega
theorem replicate_snoc {α : Type} (j : Nat) (x : α) : List.replicate j x ++ [x] = List.replicate (j + 1) x := by
  rw [List.replicate_succ', ]
theorem spec_Padded_l1 (n : Int) : ∀ (i : Nat) (x : List Int), i ≤ 8 → x.length + i ≤ 100000000000000 → Ev (fun k => spec_Padded.l1 k x n (8 * (i : Int) - 8)) (x ++ lenM n i) := by
  intro i
  induction i with
  | zero =>
    intro x hi hx
    refine Ev.up (Ev.now _) (fun k _ => ?_)
    simp only [spec_Padded.l1]
    rw [if_neg (by omega), lenM, List.append_nil]
  | succ i ih =>
    intro x hi hx
    have hs : (shr .i64 n (IntKind.u64.wrap (8 * ((i + 1 : Nat) : Int) - 8))) = n / 2 ^ (8 * i) := by
      rw [IntKind.wrap_u64, show (8 * ((i + 1 : Nat) : Int) - 8) % 18446744073709551616 = ((8 * i : Nat) : Int) by omega]
      unfold shr
      rw [Int.toNat_natCast, Nat.min_eq_left (by simp only [IntKind.bits]; omega)]
    refine Ev.up ((ih (x ++ [(n / 2 ^ (8 * i)) % 256]) (by omega) (by simp; omega)).cast (q := x ++ lenM n (i + 1)) (by rw [lenM, List.append_assoc]; rfl)) (fun k hk => ?_)
    simp only [spec_Padded.l1]
    have hu : 0 ≤ IntKind.u64.wrap (8 * ((i + 1 : Nat) : Int) - 8) := by rw [IntKind.wrap_u64]; exact Int.emod_nonneg _ (by decide)
    rw [if_pos (by omega), if_pos hu, if_pos (by omega), hs, w64 (by omega) (by omega)]
    rw [show (8 * ((i + 1 : Nat) : Int) - 8 - 8) = 8 * (i : Int) - 8 by omega]
    exact hk
theorem spec_Padded_l0 (l : List Int) (hl : l.length ≤ 10000000000000) : ∀ d j : Nat, zerosM l.length - j = d → j ≤ zerosM l.length →
    Ev (fun k => spec_Padded.l0 k l (l ++ [128] ++ List.replicate j 0)) (padM l) := by
  intro d
  induction d with
  | zero =>
    intro j hd hj
    obtain rfl : j = zerosM l.length := by omega
    refine Ev.up ((spec_Padded_l1 (8 * (l.length : Int)) 8 (l ++ [128] ++ List.replicate (zerosM l.length) 0) (by omega) (by simp; unfold zerosM; omega)).cast (q := padM l) rfl) (fun k hk => ?_)
    simp only [spec_Padded.l0]
    rw [if_pos (by simp; unfold zerosM; omega), w64 (by omega) (by omega), Int.mul_comm (l.length : Int) 8]
    exact hk
  | succ d ih =>
    intro j hd hj
    refine Ev.up (ih (j + 1) (by omega) (by omega)) (fun k hk => ?_)
    simp only [spec_Padded.l0]
    rw [if_neg (by simp; unfold zerosM at hj hd; omega), if_pos (by simp; unfold zerosM at hj; omega), List.append_assoc, replicate_snoc]
    exact hk
theorem spec_Padded_ev (l : List Int) (hl : l.length ≤ 10000000000000) : Ev (fun k => spec_Padded.f k l) (padM l) := by
  refine (spec_Padded_l0 l hl _ 0 rfl (by omega)).congr (fun k => ?_)
  unfold spec_Padded.f
  simp only [Option.bind_some, List.nil_append, List.length_nil]
  rw [if_pos (by omega), if_pos (by omega)]
  simp
theorem impl_Padded_l1 (n : Int) : ∀ (i : Nat) (x : List Int), i ≤ 8 → x.length + i ≤ 100000000000000 → Ev (fun k => impl_Padded.l1 k x n ((i : Int) - 1)) (x ++ lenM n i) := by
  intro i
  induction i with
  | zero =>
    intro x hi hx
    refine Ev.up (Ev.now _) (fun k _ => ?_)
    simp only [impl_Padded.l1]
    rw [if_neg (by omega), lenM, List.append_nil]
  | succ i ih =>
    intro x hi hx
    have hs : (shr .i64 n (IntKind.u64.wrap (wrap64 (8 * (((i + 1 : Nat) : Int) - 1))))) = n / 2 ^ (8 * i) := by
      rw [w64 (by omega) (by omega), IntKind.wrap_u64, show (8 * (((i + 1 : Nat) : Int) - 1)) % 18446744073709551616 = ((8 * i : Nat) : Int) by omega]
      unfold shr
      rw [Int.toNat_natCast, Nat.min_eq_left (by simp only [IntKind.bits]; omega)]
    refine Ev.up ((ih (x ++ [(n / 2 ^ (8 * i)) % 256]) (by omega) (by simp; omega)).cast (q := x ++ lenM n (i + 1)) (by rw [lenM, List.append_assoc]; rfl)) (fun k hk => ?_)
    simp only [impl_Padded.l1]
    have hu : 0 ≤ IntKind.u64.wrap (wrap64 (8 * (((i + 1 : Nat) : Int) - 1))) := by rw [IntKind.wrap_u64]; exact Int.emod_nonneg _ (by decide)
    rw [if_pos (by omega), if_pos hu, if_pos (by omega), hs, w64 (by omega) (by omega)]
    rw [show (((i + 1 : Nat) : Int) - 1 - 1) = (i : Int) - 1 by omega]
    exact hk
theorem impl_Padded_l0 (l : List Int) (hl : l.length ≤ 10000000000000) : ∀ d j : Nat, zerosM l.length - j = d → j ≤ zerosM l.length →
    Ev (fun k => impl_Padded.l0 k l (l ++ [128] ++ List.replicate j 0)) (padM l) := by
  intro d
  induction d with
  | zero =>
    intro j hd hj
    obtain rfl : j = zerosM l.length := by omega
    refine Ev.up ((impl_Padded_l1 (8 * (l.length : Int)) 8 (l ++ [128] ++ List.replicate (zerosM l.length) 0) (by omega) (by simp; unfold zerosM; omega)).cast (q := padM l) rfl) (fun k hk => ?_)
    simp only [impl_Padded.l0]
    have hz : ((l ++ [128] ++ List.replicate (zerosM l.length) (0 : Int)).length : Int) = l.length + 1 + zerosM l.length := by simp; omega
    have hz2 : (zerosM l.length : Int) = ((119 - l.length % 64) % 64 : Nat) := rfl
    rw [hz, w64 (by omega) (by omega), Int.tmod_eq_emod_of_nonneg (by omega), if_pos (by omega), w64 (by omega) (by omega)]
    exact hk
  | succ d ih =>
    intro j hd hj
    refine Ev.up (ih (j + 1) (by omega) (by omega)) (fun k hk => ?_)
    simp only [impl_Padded.l0]
    have hz : ((l ++ [128] ++ List.replicate j (0 : Int)).length : Int) = l.length + 1 + j := by simp; omega
    have hz2 : zerosM l.length = ((119 - l.length % 64) % 64 : Nat) := rfl
    rw [hz, w64 (by omega) (by omega), Int.tmod_eq_emod_of_nonneg (by omega), if_neg (by omega), if_pos (by simp; omega), List.append_assoc, replicate_snoc]
    exact hk
theorem impl_Padded_ev (l : List Int) (hl : l.length ≤ 10000000000000) : Ev (fun k => impl_Padded.f k l) (padM l) := by
  refine (impl_Padded_l0 l hl _ 0 rfl (by omega)).congr (fun k => ?_)
  unfold impl_Padded.f slices_Clone_byte_byte.f
  rw [if_pos (by omega), Option.bind_some, if_pos (by omega)]
  simp
end Go.Proofs.Ytgaalomhipfgjaa.P
namespace Go.Proofs.Ytgaalomhipfgjaa.P
open Go.RowKit Go.Proofs.YtgaalomhipfgjaaW.PrintWords Go.Proofs.YtgaalomhipfgjaaW.PrintLast Go.Proofs.YtgaalomhipfgjaaW.PrintMore
def W32 (x : Int) : Prop := 0 ≤ x ∧ x < 4294967296
def Wd (l : List Int) : Prop := ∀ x ∈ l, W32 x
theorem Wd.rd {l : List Int} (h : Wd l) (i : Int) : W32 (rd l i) := by
  unfold Go.Proofs.YtgaalomhipfgjaaW.PrintWords.rd
  rw [List.getD_eq_getElem?_getD]
  by_cases hi : i.toNat < l.length
  · rw [List.getElem?_eq_getElem hi]
    exact h _ (List.getElem_mem hi)
  · rw [List.getElem?_eq_none (by omega)]
    exact ⟨by simp, by simp⟩
theorem W32.nat {x : Int} (h : W32 x) : ∃ n : Nat, x = (n : Int) ∧ n < 4294967296 := ⟨x.toNat, by have := h.1; omega, by have := h.2; omega⟩
theorem w32_mod (x : Int) : W32 (x % 4294967296) := ⟨by omega, by omega⟩
theorem ofInt32 (a : Nat) (ha : a < 4294967296) : (BitVec.ofInt 32 (a : Int)).toNat = a := by
  rw [BitVec.ofInt_natCast, BitVec.toNat_ofNat]
  exact Nat.mod_eq_of_lt (by omega)
theorem u32_wrap_small {n : Nat} (h1 : n < 4294967296) : IntKind.u32.wrap (n : Int) = n := by rw [IntKind.wrap_u32]; omega
theorem u32_and_nat (a b : Nat) (ha : a < 4294967296) (hb : b < 4294967296) : Go.bits .and .u32 (a : Int) (b : Int) = ((a &&& b : Nat) : Int) := by
  show IntKind.u32.wrap (((BitVec.ofInt 32 (a : Int)) &&& (BitVec.ofInt 32 (b : Int))).toNat : Int) = _
  rw [BitVec.toNat_and, ofInt32 a ha, ofInt32 b hb]
  have h_ : a &&& b ≤ a := Nat.and_le_left
  exact u32_wrap_small (by omega)
theorem u32_or_nat (a b : Nat) (ha : a < 4294967296) (hb : b < 4294967296) : Go.bits .or .u32 (a : Int) (b : Int) = ((a ||| b : Nat) : Int) := by
  show IntKind.u32.wrap (((BitVec.ofInt 32 (a : Int)) ||| (BitVec.ofInt 32 (b : Int))).toNat : Int) = _
  rw [BitVec.toNat_or, ofInt32 a ha, ofInt32 b hb]
  have h_ : a ||| b < 2 ^ 32 := Nat.or_lt_two_pow (by omega) (by omega)
  exact u32_wrap_small (by omega)
theorem u32_xor_nat (a b : Nat) (ha : a < 4294967296) (hb : b < 4294967296) : Go.bits .xor .u32 (a : Int) (b : Int) = ((a ^^^ b : Nat) : Int) := by
  show IntKind.u32.wrap (((BitVec.ofInt 32 (a : Int)) ^^^ (BitVec.ofInt 32 (b : Int))).toNat : Int) = _
  rw [BitVec.toNat_xor, ofInt32 a ha, ofInt32 b hb]
  have h_ : a ^^^ b < 2 ^ 32 := Nat.xor_lt_two_pow (by omega) (by omega)
  exact u32_wrap_small (by omega)
theorem and3264 {a b : Int} (ha : W32 a) (hb : W32 b) : Go.bits .and .i64 a b = Go.bits .and .u32 a b := by
  obtain ⟨m, rfl, hm⟩ := ha.nat
  obtain ⟨n, rfl, hn⟩ := hb.nat
  rw [u32_and_nat m n hm hn, i64_and_nat m n (by omega) (by omega)]
theorem or3264 {a b : Int} (ha : W32 a) (hb : W32 b) : Go.bits .or .i64 a b = Go.bits .or .u32 a b := by
  obtain ⟨m, rfl, hm⟩ := ha.nat
  obtain ⟨n, rfl, hn⟩ := hb.nat
  rw [u32_or_nat m n hm hn, i64_or_nat m n (by omega) (by omega)]
theorem xor3264 {a b : Int} (ha : W32 a) (hb : W32 b) : Go.bits .xor .i64 a b = Go.bits .xor .u32 a b := by
  obtain ⟨m, rfl, hm⟩ := ha.nat
  obtain ⟨n, rfl, hn⟩ := hb.nat
  rw [u32_xor_nat m n hm hn, i64_xor_nat m n (by omega) (by omega)]
theorem w32_and {a b : Int} (ha : W32 a) (hb : W32 b) : W32 (Go.bits .and .u32 a b) := by
  obtain ⟨m, rfl, hm⟩ := ha.nat
  obtain ⟨n, rfl, hn⟩ := hb.nat
  rw [u32_and_nat m n hm hn]
  have h_ : m &&& n ≤ m := Nat.and_le_left
  exact ⟨by omega, by omega⟩
theorem w32_or {a b : Int} (ha : W32 a) (hb : W32 b) : W32 (Go.bits .or .u32 a b) := by
  obtain ⟨m, rfl, hm⟩ := ha.nat
  obtain ⟨n, rfl, hn⟩ := hb.nat
  rw [u32_or_nat m n hm hn]
  have h_ : m ||| n < 2 ^ 32 := Nat.or_lt_two_pow (by omega) (by omega)
  exact ⟨by omega, by omega⟩
theorem w32_xor {a b : Int} (ha : W32 a) (hb : W32 b) : W32 (Go.bits .xor .u32 a b) := by
  obtain ⟨m, rfl, hm⟩ := ha.nat
  obtain ⟨n, rfl, hn⟩ := hb.nat
  rw [u32_xor_nat m n hm hn]
  have h_ : m ^^^ n < 2 ^ 32 := Nat.xor_lt_two_pow (by omega) (by omega)
  exact ⟨by omega, by omega⟩
theorem and_mask (x : Int) (h0 : 0 ≤ x) (h1 : x < 9223372036854775808) : Go.bits .and .i64 x 4294967295 = x % 4294967296 := by
  obtain ⟨n, rfl⟩ : ∃ n : Nat, x = (n : Int) := ⟨x.toNat, by omega⟩
  rw [show (4294967295 : Int) = ((4294967295 : Nat) : Int) from rfl, i64_and_nat n 4294967295 (by omega) (by omega), show (4294967295 : Nat) = 2 ^ 32 - 1 from rfl, Nat.and_two_pow_sub_one_eq_mod]
  omega
theorem max32 : IntKind.u32.max = 4294967295 := by decide
theorem w32_max : W32 IntKind.u32.max := by rw [max32]; exact ⟨by omega, by omega⟩
theorem w32_rotl {a : Int} (ha : W32 a) (n : Nat) : W32 (rotl a n) := by
  unfold rotl
  refine w32_or (w32_mod _) ?_
  have h0 := ha.1
  have h1 := ha.2
  exact ⟨Int.ediv_nonneg h0 (Int.pow_nonneg (by decide)), Int.lt_of_le_of_lt (Int.ediv_le_self _ h0) h1⟩
theorem w32_div {a : Int} (ha : W32 a) (n : Int) (hn : 0 < n) : W32 (a / n) := ⟨Int.ediv_nonneg ha.1 (by omega), Int.lt_of_le_of_lt (Int.ediv_le_self _ ha.1) ha.2⟩
theorem rd_take (l : List Int) (n j : Nat) (h : j < n) : rd (l.take n) (j : Int) = rd l (j : Int) := by
  unfold rd
  simp [List.getD_eq_getElem?_getD, List.getElem?_take, h]
theorem take_set (l : List Int) (i : Nat) (v : Int) (h : i < l.length) : (l.set i v).take (i + 1) = l.take i ++ [v] := by
  rw [List.take_succ_eq_append_getElem (by simpa using h), List.getElem_set_self, List.take_set, List.set_eq_of_length_le (by rw [List.length_take]; omega)]
theorem be4_w32 {b : List Int} (hb : By b) (i : Nat) : W32 (be4 b i) := by
  unfold be4
  exact w32_or (w32_or (w32_or (w32_mod _) (w32_mod _)) (w32_mod _)) (w32_mod _)
theorem wnext_w32 (l : List Int) (i : Nat) : W32 (wnext l i) := w32_mod _
theorem w16_wd {b : List Int} (hb : By b) : Wd (w16 b 16) := by
  intro x hx
  unfold w16 at hx
  rcases List.mem_append.1 hx with h | h
  · obtain ⟨i, _, rfl⟩ := List.mem_map.1 h
    exact be4_w32 hb i
  · rw [List.eq_of_mem_replicate h]
    exact ⟨by omega, by omega⟩
theorem Wd.set {l : List Int} (h : Wd l) (i : Nat) {v : Int} (hv : W32 v) : Wd (l.set i v) := fun x hx => by
  rcases List.mem_or_eq_of_mem_set hx with h1 | h1
  · exact h x h1
  · rw [h1]; exact hv
theorem wrow_wd {b : List Int} (hb : By b) : ∀ k, Wd (wrow b k)
  | 0 => w16_wd hb
  | k + 1 => (wrow_wd hb k).set _ (wnext_w32 _ _)
theorem tround_wd {v : List Int} (h : Wd v) (kk ww : Int) : Wd (tround v kk ww) := by
  intro x hx
  simp only [tround, List.mem_cons, List.not_mem_nil, or_false] at hx
  rcases hx with rfl | rfl | rfl | rfl | rfl | rfl | rfl | rfl
  · exact w32_mod _
  · exact h.rd _
  · exact h.rd _
  · exact h.rd _
  · exact w32_mod _
  · exact h.rd _
  · exact h.rd _
  · exact h.rd _
theorem vrow_wd {h : List Int} (hh : Wd h) (ws : List Int) : ∀ i, Wd (vrow h ws i)
  | 0 => hh
  | i + 1 => tround_wd (vrow_wd hh ws i) _ _
theorem hrow_wd {h : List Int} (hh : Wd h) (v : List Int) : ∀ i, Wd (hrow h v i)
  | 0 => hh
  | i + 1 => (hrow_wd hh v i).set _ (w32_mod _)
theorem kList_wd : Wd kList := by
  have h : kList.all (fun x => decide (0 ≤ x) && decide (x < 4294967296)) = true := by decide
  intro x hx
  have := List.all_eq_true.1 h x hx
  simp at this
  exact this
theorem h0List_wd : Wd h0List := by
  have h : h0List.all (fun x => decide (0 ≤ x) && decide (x < 4294967296)) = true := by decide
  intro x hx
  have := List.all_eq_true.1 h x hx
  simp at this
  exact this
theorem turn_eq {x : Int} (h : W32 x) (n : Nat) (h1 : 1 ≤ n) (h2 : n ≤ 31) : spec_l2Turn.f x (n : Int) = some (rotl x (32 - n)) := by
  obtain ⟨m, rfl, hm⟩ := h.nat
  have e1 : IntKind.u64.wrap (n : Int) = n := by rw [IntKind.wrap_u64]; omega
  have e2 : IntKind.u64.wrap (wrap64 (32 - (n : Int))) = ((32 - n : Nat) : Int) := by rw [w64 (by omega) (by omega), IntKind.wrap_u64]; omega
  unfold spec_l2Turn.f
  rw [e1, e2, if_pos (by omega), if_pos (by omega)]
  congr 1
  have hs : shr .i64 (m : Int) (n : Int) = ((m / 2 ^ n : Nat) : Int) := by
    unfold shr
    rw [Int.toNat_natCast, Nat.min_eq_left (by simp only [IntKind.bits]; omega)]
    simp
  have hp : (2 : Nat) ^ (32 - n) ≤ 2 ^ 31 := Nat.pow_le_pow_right (by decide) (by omega)
  have hlt : m * 2 ^ (32 - n) < 9223372036854775808 := by
    have : m * 2 ^ (32 - n) ≤ m * 2 ^ 31 := Nat.mul_le_mul_left _ hp
    omega
  have hl : shl .i64 (m : Int) ((32 - n : Nat) : Int) = ((m * 2 ^ (32 - n) : Nat) : Int) := by
    unfold shl
    rw [Int.toNat_natCast, Nat.min_eq_left (by simp only [IntKind.bits]; omega)]
    have e : (m : Int) * 2 ^ (32 - n) = ((m * 2 ^ (32 - n) : Nat) : Int) := by simp
    rw [e]
    exact i64_wrap_small (by omega) (by omega)
  have hd : m / 2 ^ n ≤ m := Nat.div_le_self _ _
  rw [hs, hl, i64_or_nat _ _ (by omega) (by omega), and_mask _ (by omega) (by
    have h_ : (m / 2 ^ n) ||| (m * 2 ^ (32 - n)) < 2 ^ 63 := Nat.or_lt_two_pow (by omega) (by omega)
    omega)]
  unfold rotl
  rw [show 32 - (32 - n) = n by omega]
  have e3 : (m : Int) * 2 ^ (32 - n) % 4294967296 = ((m * 2 ^ (32 - n) % 4294967296 : Nat) : Int) := by simp
  have e4 : (m : Int) / 2 ^ n = ((m / 2 ^ n : Nat) : Int) := by simp
  rw [e3, e4, u32_or_nat _ _ (Nat.mod_lt _ (by decide)) (by omega)]
  have e5 : ((m / 2 ^ n) ||| (m * 2 ^ (32 - n))) % 2 ^ 32 = (m / 2 ^ n) % 2 ^ 32 ||| (m * 2 ^ (32 - n)) % 2 ^ 32 := Nat.or_mod_two_pow
  have e6 : (m / 2 ^ n) % 2 ^ 32 = m / 2 ^ n := Nat.mod_eq_of_lt (by omega)
  have e7 : (2 : Nat) ^ 32 = 4294967296 := by decide
  rw [e6, e7] at e5
  rw [Nat.or_comm (m * 2 ^ (32 - n) % 4294967296), ← e5]
  generalize m / 2 ^ n ||| m * 2 ^ (32 - n) = A
  omega
theorem l2Words_l1 {b : List Int} (hb : By b) : ∀ d k : Nat, k + d = 48 → Ev (fun q => spec_l2Words.l1 q ((wrow b k).take (16 + k)) ((16 + k : Nat) : Int)) (wrow b 48) := by
  intro d
  induction d with
  | zero =>
    intro k hk
    obtain rfl : k = 48 := by omega
    refine Ev.up (Ev.now _) (fun q _ => ?_)
    simp only [spec_l2Words.l1]
    rw [if_neg (by omega), List.take_of_length_le (by rw [wrow_length]; omega)]
  | succ d ih =>
    intro k hk
    have hw := wrow_wd hb k
    have hl : ((wrow b k).take (16 + k)).length = 16 + k := by rw [List.length_take, wrow_length]; omega
    have hn : (wrow b (k + 1)).take (16 + (k + 1)) = (wrow b k).take (16 + k) ++ [wnext (wrow b k) (16 + k)] := take_set (wrow b k) (16 + k) _ (by rw [wrow_length]; omega)
    refine Ev.up (ih (k + 1) (by omega)) (fun q hq => ?_)
    rw [hn] at hq
    simp only [spec_l2Words.l1]
    have r1 := rd_take (wrow b k) (16 + k) (16 + k - 15) (by omega)
    have r2 := rd_take (wrow b k) (16 + k) (16 + k - 2) (by omega)
    have r3 := rd_take (wrow b k) (16 + k) (16 + k - 16) (by omega)
    have r4 := rd_take (wrow b k) (16 + k) (16 + k - 7) (by omega)
    have i1 : wrap64 (((16 + k : Nat) : Int) - 15) = ((16 + k - 15 : Nat) : Int) := by rw [w64 (by omega) (by omega)]; omega
    have i2 : wrap64 (((16 + k : Nat) : Int) - 2) = ((16 + k - 2 : Nat) : Int) := by rw [w64 (by omega) (by omega)]; omega
    have i3 : wrap64 (((16 + k : Nat) : Int) - 16) = ((16 + k - 16 : Nat) : Int) := by rw [w64 (by omega) (by omega)]; omega
    have i4 : wrap64 (((16 + k : Nat) : Int) - 7) = ((16 + k - 7 : Nat) : Int) := by rw [w64 (by omega) (by omega)]; omega
    have hx := hw.rd ((16 + k - 15 : Nat) : Int)
    have hy := hw.rd ((16 + k - 2 : Nat) : Int)
    have hz := hw.rd ((16 + k - 16 : Nat) : Int)
    have hv := hw.rd ((16 + k - 7 : Nat) : Int)
    rw [i1, i2, i3, i4, r1, r2, r3, r4, hl]
    have t1 : spec_l2Turn.f (rd (wrow b k) ((16 + k - 15 : Nat) : Int)) 7 = some _ := turn_eq hx 7 (by omega) (by omega)
    have t2 : spec_l2Turn.f (rd (wrow b k) ((16 + k - 15 : Nat) : Int)) 18 = some _ := turn_eq hx 18 (by omega) (by omega)
    have t3 : spec_l2Turn.f (rd (wrow b k) ((16 + k - 2 : Nat) : Int)) 17 = some _ := turn_eq hy 17 (by omega) (by omega)
    have t4 : spec_l2Turn.f (rd (wrow b k) ((16 + k - 2 : Nat) : Int)) 19 = some _ := turn_eq hy 19 (by omega) (by omega)
    rw [if_pos (by omega), if_pos (by omega), if_pos (by omega), if_pos (by omega), if_pos (by omega), t1, Option.bind_some, t2, Option.bind_some, t3, Option.bind_some, t4, Option.bind_some,
      if_pos (by omega), if_pos (by omega), if_pos (by omega), if_pos (by omega), if_pos (by omega)]
    rw [w64 (x := ((16 + k : Nat) : Int) + 1) (by omega) (by omega)]
    have q1 := w32_rotl hx 25
    have q2 := w32_rotl hx 14
    have q3 := w32_rotl hy 15
    have q4 := w32_rotl hy 13
    have q5 := w32_div hx 8 (by omega)
    have q6 := w32_div hy 1024 (by omega)
    have s1 := w32_xor (w32_xor q1 q2) q5
    have s2 := w32_xor (w32_xor q3 q4) q6
    rw [xor3264 q1 q2, xor3264 (w32_xor q1 q2) q5, xor3264 q3 q4, xor3264 (w32_xor q3 q4) q6]
    have ev : Go.bits .and .i64 (wrap64 ((wrap64 ((wrap64 ((rd (wrow b k) ((16 + k - 16 : Nat) : Int)) + (Go.bits .xor .u32 (Go.bits .xor .u32 (rotl (rd (wrow b k) ((16 + k - 15 : Nat) : Int)) 25) (rotl (rd (wrow b k) ((16 + k - 15 : Nat) : Int)) 14)) ((rd (wrow b k) ((16 + k - 15 : Nat) : Int)) / 8)))) + (rd (wrow b k) ((16 + k - 7 : Nat) : Int)))) + (Go.bits .xor .u32 (Go.bits .xor .u32 (rotl (rd (wrow b k) ((16 + k - 2 : Nat) : Int)) 15) (rotl (rd (wrow b k) ((16 + k - 2 : Nat) : Int)) 13)) ((rd (wrow b k) ((16 + k - 2 : Nat) : Int)) / 1024)))) 4294967295 = wnext (wrow b k) (16 + k) := by
      obtain ⟨a1, a2⟩ := s1
      obtain ⟨b1, b2⟩ := s2
      obtain ⟨c1, c2⟩ := hz
      obtain ⟨d1, d2⟩ := hv
      unfold wnext
      generalize Go.bits .xor .u32 (Go.bits .xor .u32 (rotl (rd (wrow b k) ((16 + k - 15 : Nat) : Int)) 25) (rotl (rd (wrow b k) ((16 + k - 15 : Nat) : Int)) 14)) ((rd (wrow b k) ((16 + k - 15 : Nat) : Int)) / 8) = S at *
      generalize Go.bits .xor .u32 (Go.bits .xor .u32 (rotl (rd (wrow b k) ((16 + k - 2 : Nat) : Int)) 15) (rotl (rd (wrow b k) ((16 + k - 2 : Nat) : Int)) 13)) ((rd (wrow b k) ((16 + k - 2 : Nat) : Int)) / 1024) = T at *
      rw [w64 (x := rd (wrow b k) ((16 + k - 16 : Nat) : Int) + S) (by omega) (by omega), w64 (x := rd (wrow b k) ((16 + k - 16 : Nat) : Int) + S + _) (by omega) (by omega), w64 (x := rd (wrow b k) ((16 + k - 16 : Nat) : Int) + S + _ + T) (by omega) (by omega), and_mask _ (by omega) (by omega)]
    rw [ev]
    exact hq
theorem l2Words_l0 {b : List Int} (hb : By b) (h64 : b.length = 64) : ∀ d i : Nat, i + d = 16 → Ev (fun q => spec_l2Words.l0 q b ((List.range i).map (be4 b)) (i : Int)) (wrow b 48) := by
  intro d
  induction d with
  | zero =>
    intro i hi
    obtain rfl : i = 16 := by omega
    refine Ev.up (l2Words_l1 hb 48 0 rfl) (fun q hq => ?_)
    simp only [spec_l2Words.l0]
    rw [if_neg (by omega)]
    have e : (wrow b 0).take (16 + 0) = (List.range 16).map (be4 b) := by
      show ((List.range 16).map (be4 b) ++ List.replicate (64 - 16) 0).take 16 = _
      rw [List.take_append_of_le_length (by simp), List.take_of_length_le (by simp)]
    rw [e] at hq
    exact hq
  | succ d ih =>
    intro i hi
    refine Ev.up (ih (i + 1) (by omega)) (fun q hq => ?_)
    simp only [spec_l2Words.l0]
    have i1 : wrap64 (4 * (i : Int)) = ((4 * i : Nat) : Int) := by rw [w64 (by omega) (by omega)]; omega
    have i2 : wrap64 (((4 * i : Nat) : Int) + 1) = ((4 * i + 1 : Nat) : Int) := by rw [w64 (by omega) (by omega)]; omega
    have i3 : wrap64 (((4 * i : Nat) : Int) + 2) = ((4 * i + 2 : Nat) : Int) := by rw [w64 (by omega) (by omega)]; omega
    have i4 : wrap64 (((4 * i : Nat) : Int) + 3) = ((4 * i + 3 : Nat) : Int) := by rw [w64 (by omega) (by omega)]; omega
    rw [i1, i2, i3, i4, if_pos (by omega), if_pos (by omega), if_pos (by omega), if_pos (by omega), if_pos (by omega), if_pos (by omega), if_pos (by omega), if_pos (by omega), if_pos (by omega), if_pos (by simp; omega)]
    rw [w64 (x := (i : Int) + 1) (by omega) (by omega)]
    have c0 := hb.rd ((4 * i : Nat) : Int)
    have c1 := hb.rd ((4 * i + 1 : Nat) : Int)
    have c2 := hb.rd ((4 * i + 2 : Nat) : Int)
    have c3 := hb.rd ((4 * i + 3 : Nat) : Int)
    have ev : Go.bits .or .i64 (Go.bits .or .i64 (Go.bits .or .i64 (wrap64 ((wrap64 (rd b ((4 * i : Nat) : Int))) * 16777216)) (wrap64 ((wrap64 (rd b ((4 * i + 1 : Nat) : Int))) * 65536))) (wrap64 ((wrap64 (rd b ((4 * i + 2 : Nat) : Int))) * 256))) (wrap64 (rd b ((4 * i + 3 : Nat) : Int))) = be4 b i := by
      unfold be4
      generalize rd b ((4 * i : Nat) : Int) = x0 at *
      generalize rd b ((4 * i + 1 : Nat) : Int) = x1 at *
      generalize rd b ((4 * i + 2 : Nat) : Int) = x2 at *
      generalize rd b ((4 * i + 3 : Nat) : Int) = x3 at *
      have e0 : wrap64 (wrap64 x0 * 16777216) = x0 % 4294967296 * 16777216 % 4294967296 := by rw [w64 (x := x0) (by omega) (by omega), w64 (by omega) (by omega)]; omega
      have e1 : wrap64 (wrap64 x1 * 65536) = x1 % 4294967296 * 65536 % 4294967296 := by rw [w64 (x := x1) (by omega) (by omega), w64 (by omega) (by omega)]; omega
      have e2 : wrap64 (wrap64 x2 * 256) = x2 % 4294967296 * 256 % 4294967296 := by rw [w64 (x := x2) (by omega) (by omega), w64 (by omega) (by omega)]; omega
      have e3 : wrap64 x3 = x3 % 4294967296 := by rw [w64 (x := x3) (by omega) (by omega)]; omega
      rw [e0, e1, e2, e3, or3264 (w32_mod _) (w32_mod _), or3264 (w32_or (w32_mod _) (w32_mod _)) (w32_mod _), or3264 (w32_or (w32_or (w32_mod _) (w32_mod _)) (w32_mod _)) (w32_mod _)]
    rw [ev]
    rw [List.range_succ, List.map_append] at hq
    exact hq
theorem l2Words_ev {b : List Int} (hb : By b) (h64 : b.length = 64) : Ev (fun k => spec_l2Words.f k b) (wrow b 48) :=
  (l2Words_l0 hb h64 16 0 rfl).congr (fun k => rfl)
theorem l2Block_l1 (h v : List Int) (h8 : h.length = 8) (v8 : v.length = 8) (hh : Wd h) (hv : Wd v) : Ev (fun q => spec_l2Block.l1 q h v 0) (hrow h v 8) := by
  obtain ⟨h0, h1, h2, h3, h4, h5, h6, h7, rfl⟩ := oct_of h8
  obtain ⟨v0, v1, v2, v3, v4, v5, v6, v7, rfl⟩ := oct_of v8
  have s : ∀ a ∈ [v0, v1, v2, v3, v4, v5, v6, v7], ∀ b ∈ [h0, h1, h2, h3, h4, h5, h6, h7], Go.bits .and .i64 (wrap64 (a + b)) 4294967295 = (b + a) % 4294967296 := by
    intro a ha b hb
    have x := hv a ha
    have y := hh b hb
    rw [w64 (by have := x.1; have := y.1; omega) (by have := x.2; have := y.2; omega), and_mask _ (by have := x.1; have := y.1; omega) (by have := x.2; have := y.2; omega), Int.add_comm]
  have st : ∀ (x : List Int) (i : Nat) (a b : Int), x.length = 8 → i < 8 → rd x (i : Int) = a → rd [h0, h1, h2, h3, h4, h5, h6, h7] (i : Int) = b → a ∈ [v0, v1, v2, v3, v4, v5, v6, v7] → b ∈ [h0, h1, h2, h3, h4, h5, h6, h7] → ∀ r,
      Ev (fun q => spec_l2Block.l1 q [h0, h1, h2, h3, h4, h5, h6, h7] (x.set i ((b + a) % 4294967296)) ((i + 1 : Nat) : Int)) r → Ev (fun q => spec_l2Block.l1 q [h0, h1, h2, h3, h4, h5, h6, h7] x (i : Int)) r := by
    intro x i a b hx hi ha hb h1 h2 r hr
    refine Ev.up hr (fun q hq => ?_)
    simp only [spec_l2Block.l1]
    rw [if_pos (by omega), if_pos (by omega), if_pos (by omega), if_pos (by simp; omega), ha, hb, s a h1 b h2, Int.toNat_natCast, w64 (by omega) (by omega)]
    exact hq
  refine st _ 0 v0 h0 rfl (by omega) rfl rfl (by simp) (by simp) _ ?_
  refine st _ 1 v1 h1 rfl (by omega) rfl rfl (by simp) (by simp) _ ?_
  refine st _ 2 v2 h2 rfl (by omega) rfl rfl (by simp) (by simp) _ ?_
  refine st _ 3 v3 h3 rfl (by omega) rfl rfl (by simp) (by simp) _ ?_
  refine st _ 4 v4 h4 rfl (by omega) rfl rfl (by simp) (by simp) _ ?_
  refine st _ 5 v5 h5 rfl (by omega) rfl rfl (by simp) (by simp) _ ?_
  refine st _ 6 v6 h6 rfl (by omega) rfl rfl (by simp) (by simp) _ ?_
  refine st _ 7 v7 h7 rfl (by omega) rfl rfl (by simp) (by simp) _ ?_
  refine Ev.up (Ev.now _) (fun q _ => ?_)
  simp only [spec_l2Block.l1]
  rw [if_neg (by decide)]
  rfl
theorem l2Block_l0 (h ws : List Int) (h8 : h.length = 8) (hh : Wd h) (hws : Wd ws) (w64l : ws.length = 64) : ∀ d i : Nat, i + d = 64 → Ev (fun q => spec_l2Block.l0 q h kList ws (vrow h ws i) (i : Int)) (hrow h (vrow h ws 64) 8) := by
  intro d
  induction d with
  | zero =>
    intro i hi
    obtain rfl : i = 64 := by omega
    refine Ev.up (l2Block_l1 h _ h8 (vrow_length h ws h8 64) hh (vrow_wd hh ws 64)) (fun q hq => ?_)
    simp only [spec_l2Block.l0]
    rw [if_neg (by omega)]
    exact hq
  | succ d ih =>
    intro i hi
    refine Ev.up (ih (i + 1) (by omega)) (fun q hq => ?_)
    have hr : vrow h ws (i + 1) = tround (vrow h ws i) (rd kList (i : Int)) (rd ws (i : Int)) := rfl
    rw [hr] at hq
    have hvw := vrow_wd hh ws i
    have hv8 := vrow_length h ws h8 i
    generalize vrow h ws i = v at *
    have hk := kList_wd.rd (i : Int)
    have hw := hws.rd (i : Int)
    have hkl : (kList.length : Int) = 64 := rfl
    have hwl : (ws.length : Int) = 64 := by omega
    have hvl : (v.length : Int) = 8 := by omega
    have e4 := hvw.rd 4
    have e0 := hvw.rd 0
    simp only [spec_l2Block.l0]
    have t1 : spec_l2Turn.f (rd v 4) 6 = some (rotl (rd v 4) 26) := turn_eq e4 6 (by omega) (by omega)
    have t2 : spec_l2Turn.f (rd v 4) 11 = some (rotl (rd v 4) 21) := turn_eq e4 11 (by omega) (by omega)
    have t3 : spec_l2Turn.f (rd v 4) 25 = some (rotl (rd v 4) 7) := turn_eq e4 25 (by omega) (by omega)
    have t4 : spec_l2Turn.f (rd v 0) 2 = some (rotl (rd v 0) 30) := turn_eq e0 2 (by omega) (by omega)
    have t5 : spec_l2Turn.f (rd v 0) 13 = some (rotl (rd v 0) 19) := turn_eq e0 13 (by omega) (by omega)
    have t6 : spec_l2Turn.f (rd v 0) 22 = some (rotl (rd v 0) 10) := turn_eq e0 22 (by omega) (by omega)
    rw [hvl, hkl, hwl, if_pos (by omega), if_pos (by omega), t1, Option.bind_some, t2, Option.bind_some, t3, Option.bind_some, if_pos (by omega), if_pos (by omega), if_pos (by omega), if_pos (by omega), if_pos (by omega), if_pos (by omega), if_pos (by omega), t4, Option.bind_some, t5, Option.bind_some, t6, Option.bind_some, if_pos (by omega), if_pos (by omega), if_pos (by omega)]
    rw [w64 (x := (i : Int) + 1) (by omega) (by omega)]
    have q1 := w32_rotl e4 26
    have q2 := w32_rotl e4 21
    have q3 := w32_rotl e4 7
    have q4 := w32_rotl e0 30
    have q5 := w32_rotl e0 19
    have q6 := w32_rotl e0 10
    have s1 := w32_xor (w32_xor q1 q2) q3
    have s0 := w32_xor (w32_xor q4 q5) q6
    have a1 := w32_and e4 (hvw.rd 5)
    have a2 := w32_xor w32_max e4
    have a3 := w32_and a2 (hvw.rd 6)
    have ch := w32_xor a1 a3
    have b1 := w32_and e0 (hvw.rd 1)
    have b2 := w32_and e0 (hvw.rd 2)
    have b3 := w32_and (hvw.rd 1) (hvw.rd 2)
    have b4 := w32_xor b1 b2
    have mj := w32_xor b4 b3
    have x1 : Go.bits .xor .i64 (Go.bits .xor .i64 (rotl (rd v 4) 26) (rotl (rd v 4) 21)) (rotl (rd v 4) 7) = Go.bits .xor .u32 (Go.bits .xor .u32 (rotl (rd v 4) 26) (rotl (rd v 4) 21)) (rotl (rd v 4) 7) := by rw [xor3264 q1 q2, xor3264 (w32_xor q1 q2) q3]
    have x2 : Go.bits .xor .i64 (Go.bits .xor .i64 (rotl (rd v 0) 30) (rotl (rd v 0) 19)) (rotl (rd v 0) 10) = Go.bits .xor .u32 (Go.bits .xor .u32 (rotl (rd v 0) 30) (rotl (rd v 0) 19)) (rotl (rd v 0) 10) := by rw [xor3264 q4 q5, xor3264 (w32_xor q4 q5) q6]
    have x3 : Go.bits .xor .i64 (Go.bits .and .i64 (rd v 4) (rd v 5)) (Go.bits .and .i64 (Go.bits .xor .i64 4294967295 (rd v 4)) (rd v 6)) = Go.bits .xor .u32 (Go.bits .and .u32 (rd v 4) (rd v 5)) (Go.bits .and .u32 (Go.bits .xor .u32 IntKind.u32.max (rd v 4)) (rd v 6)) := by
      rw [← max32, and3264 e4 (hvw.rd 5), xor3264 w32_max e4, and3264 a2 (hvw.rd 6), xor3264 a1 a3]
    have x4 : Go.bits .xor .i64 (Go.bits .xor .i64 (Go.bits .and .i64 (rd v 0) (rd v 1)) (Go.bits .and .i64 (rd v 0) (rd v 2))) (Go.bits .and .i64 (rd v 1) (rd v 2)) = Go.bits .xor .u32 (Go.bits .xor .u32 (Go.bits .and .u32 (rd v 0) (rd v 1)) (Go.bits .and .u32 (rd v 0) (rd v 2))) (Go.bits .and .u32 (rd v 1) (rd v 2)) := by
      rw [and3264 e0 (hvw.rd 1), and3264 e0 (hvw.rd 2), and3264 (hvw.rd 1) (hvw.rd 2), xor3264 b1 b2, xor3264 b4 b3]
    rw [x1, x2, x3, x4]
    have e3 := hvw.rd 3
    have e7 := hvw.rd 7
    have ht : t1of v (rd kList (i : Int)) (rd ws (i : Int)) = (rd v 7 + Go.bits .xor .u32 (Go.bits .xor .u32 (rotl (rd v 4) 26) (rotl (rd v 4) 21)) (rotl (rd v 4) 7) + Go.bits .xor .u32 (Go.bits .and .u32 (rd v 4) (rd v 5)) (Go.bits .and .u32 (Go.bits .xor .u32 IntKind.u32.max (rd v 4)) (rd v 6)) + rd kList (i : Int) + rd ws (i : Int)) % 4294967296 := by
      unfold t1of
      rw [Int.emod_add_emod]
    unfold tround at hq
    rw [ht] at hq
    generalize Go.bits .xor .u32 (Go.bits .xor .u32 (rotl (rd v 4) 26) (rotl (rd v 4) 21)) (rotl (rd v 4) 7) = S1 at *
    generalize Go.bits .xor .u32 (Go.bits .xor .u32 (rotl (rd v 0) 30) (rotl (rd v 0) 19)) (rotl (rd v 0) 10) = S0 at *
    generalize Go.bits .xor .u32 (Go.bits .and .u32 (rd v 4) (rd v 5)) (Go.bits .and .u32 (Go.bits .xor .u32 IntKind.u32.max (rd v 4)) (rd v 6)) = CH at *
    generalize Go.bits .xor .u32 (Go.bits .xor .u32 (Go.bits .and .u32 (rd v 0) (rd v 1)) (Go.bits .and .u32 (rd v 0) (rd v 2))) (Go.bits .and .u32 (rd v 1) (rd v 2)) = MJ at *
    generalize rd kList (i : Int) = kk at *
    generalize rd ws (i : Int) = ww at *
    obtain ⟨m1, m2⟩ := s1
    obtain ⟨m3, m4⟩ := s0
    obtain ⟨m5, m6⟩ := ch
    obtain ⟨m7, m8⟩ := mj
    obtain ⟨m9, m10⟩ := hk
    obtain ⟨m11, m12⟩ := hw
    obtain ⟨m13, m14⟩ := e7
    obtain ⟨m15, m16⟩ := e3
    have T : wrap64 ((wrap64 ((wrap64 ((wrap64 ((rd v 7) + S1)) + CH)) + kk)) + ww) = rd v 7 + S1 + CH + kk + ww := by
      rw [w64 (x := rd v 7 + S1) (by omega) (by omega), w64 (x := rd v 7 + S1 + CH) (by omega) (by omega), w64 (x := rd v 7 + S1 + CH + kk) (by omega) (by omega), w64 (by omega) (by omega)]
    rw [T, w64 (x := S0 + MJ) (by omega) (by omega), w64 (x := rd v 7 + S1 + CH + kk + ww + (S0 + MJ)) (by omega) (by omega), w64 (x := rd v 3 + _) (by omega) (by omega), and_mask _ (by omega) (by omega), and_mask _ (by omega) (by omega)]
    have u1 : (rd v 7 + S1 + CH + kk + ww + (S0 + MJ)) % 4294967296 = ((rd v 7 + S1 + CH + kk + ww) % 4294967296 + S0 + MJ) % 4294967296 := by omega
    have u2 : (rd v 3 + (rd v 7 + S1 + CH + kk + ww)) % 4294967296 = (rd v 3 + (rd v 7 + S1 + CH + kk + ww) % 4294967296) % 4294967296 := by omega
    rw [u1, u2]
    exact hq
theorem l2Block_ev {h b : List Int} (h8 : h.length = 8) (hh : Wd h) (hb : By b) (h64 : b.length = 64) : Ev (fun k => spec_l2Block.f k h b kList) (tblock h b) := by
  obtain ⟨K1, e1⟩ := Ev.get (l2Words_ev hb h64)
  obtain ⟨K2, e2⟩ := Ev.get (l2Block_l0 h (wrow b 48) h8 hh (wrow_wd hb 48) (wrow_length b 48) 64 0 rfl)
  refine ⟨K1 + K2, fun k hk => ?_⟩
  show spec_l2Block.f k h b kList = some (tblock h b)
  unfold spec_l2Block.f
  rw [e1 _ (by omega), Option.bind_some, Option.bind_some, if_pos (by simp; omega), List.nil_append]
  exact e2 k (by omega)
theorem tblock_wd {h b : List Int} (hh : Wd h) : Wd (tblock h b) := hrow_wd hh _ _
theorem dwords_wd (p : List Int) : ∀ k, Wd (dwords p k)
  | 0 => h0List_wd
  | k + 1 => by
    have := dwords_wd p k
    unfold dwords at this ⊢
    rw [List.range_succ, List.foldl_append]
    exact tblock_wd this
theorem dwords_succ (p : List Int) (k : Nat) : dwords p (k + 1) = tblock (dwords p k) ((p.take (64 * k + 64)).drop (64 * k)) := by
  unfold dwords
  rw [List.range_succ, List.foldl_append]
  rfl
def digB (l : List Int) : List Int := dbytes (dwords (padM l) ((padM l).length / 64))
def digM (l : List Int) : ByteArray := strOfNums (digB l)
theorem digB_length (l : List Int) : (digB l).length = 32 := by
  unfold digB
  obtain ⟨x0, x1, x2, x3, x4, x5, x6, x7, h⟩ := oct_of (dwords_length (padM l) ((padM l).length / 64))
  rw [h]
  rfl
theorem spec_Digest_l1 (h : List Int) (h8 : h.length = 8) : Ev (fun q => spec_Digest.l1 q h [] 0) (strOfNums (dbytes h)) := by
  obtain ⟨h0, h1, h2, h3, h4, h5, h6, h7, rfl⟩ := oct_of h8
  have st : ∀ (x : List Int) (i : Nat) (b : Int), x.length ≤ 40 → i < 8 → rd [h0, h1, h2, h3, h4, h5, h6, h7] (i : Int) = b → ∀ r,
      Ev (fun q => spec_Digest.l1 q [h0, h1, h2, h3, h4, h5, h6, h7] (x ++ [b / 16777216 % 256, b / 65536 % 256, b / 256 % 256, b % 256]) ((i + 1 : Nat) : Int)) r → Ev (fun q => spec_Digest.l1 q [h0, h1, h2, h3, h4, h5, h6, h7] x (i : Int)) r := by
    intro x i b hx hi hb r hr
    refine Ev.up hr (fun q hq => ?_)
    simp only [spec_Digest.l1]
    rw [if_pos (by omega), if_pos (by omega), if_pos (by simp; omega), hb, Option.bind_some, if_pos (by simp; omega), w64 (by omega) (by omega)]
    exact hq
  refine st _ 0 h0 (by simp) (by omega) rfl _ ?_
  refine st _ 1 h1 (by simp) (by omega) rfl _ ?_
  refine st _ 2 h2 (by simp) (by omega) rfl _ ?_
  refine st _ 3 h3 (by simp) (by omega) rfl _ ?_
  refine st _ 4 h4 (by simp) (by omega) rfl _ ?_
  refine st _ 5 h5 (by simp) (by omega) rfl _ ?_
  refine st _ 6 h6 (by simp) (by omega) rfl _ ?_
  refine st _ 7 h7 (by simp) (by omega) rfl _ ?_
  refine Ev.up (Ev.now _) (fun q _ => ?_)
  simp only [spec_Digest.l1]
  rw [if_neg (by decide)]
  rfl
theorem spec_Digest_l0 (p : List Int) (hp : By p) (m : Nat) (hm : p.length = 64 * m) (hl : p.length ≤ 100000000000000) : ∀ d i : Nat, i + d = m → Ev (fun q => spec_Digest.l0 q p (dwords p i) kList ((64 * i : Nat) : Int)) (strOfNums (dbytes (dwords p m))) := by
  intro d
  induction d with
  | zero =>
    intro i hi
    obtain rfl : i = m := by omega
    refine Ev.up (spec_Digest_l1 _ (dwords_length p i)) (fun q hq => ?_)
    simp only [spec_Digest.l0]
    rw [if_neg (by omega)]
    exact hq
  | succ d ih =>
    intro i hi
    have hb : By ((p.take (64 * i + 64)).drop (64 * i)) := fun x hx => hp x (List.mem_of_mem_take (List.mem_of_mem_drop hx))
    obtain ⟨K1, e1⟩ := Ev.get (l2Block_ev (dwords_length p i) (dwords_wd p i) hb (by rw [List.length_drop, List.length_take]; omega))
    obtain ⟨K2, e2⟩ := Ev.get (ih (i + 1) (by omega))
    refine Ev.up (f := fun q => if K1 + K2 ≤ q then some (strOfNums (dbytes (dwords p m))) else none) ⟨K1 + K2, fun q hq => if_pos hq⟩ (fun q hq => ?_)
    have hq' : K1 + K2 ≤ q := by
      apply Classical.byContradiction
      intro hn
      rw [if_neg hn] at hq
      cases hq
    simp only [spec_Digest.l0]
    have ew : wrap64 (((64 * i : Nat) : Int) + 64) = ((64 * i + 64 : Nat) : Int) := by rw [w64 (by omega) (by omega)]; omega
    rw [ew, if_pos (by omega), if_pos (by omega), if_pos (by omega), if_pos (by omega), Int.toNat_natCast, Int.toNat_natCast, e1 _ (by omega), Option.bind_some, ← dwords_succ]
    exact e2 q (by omega)
theorem spec_Digest_ev (l : List Int) (hb : By l) (hl : l.length ≤ 10000000000000) : Ev (fun k => spec_Digest.f k l) (digM l) := by
  have hp := padM_by hb
  have hm := padM_mod l
  have hle := padM_len_le l
  obtain ⟨K1, e1⟩ := Ev.get (spec_Padded_ev l hl)
  obtain ⟨K2, e2⟩ := Ev.get (spec_Digest_l0 (padM l) hp ((padM l).length / 64) (by omega) (by omega) _ 0 (Nat.zero_add _))
  refine ⟨K1 + K2, fun k hk => ?_⟩
  show spec_Digest.f k l = some (digM l)
  unfold spec_Digest.f
  rw [e1 _ (by omega), Option.bind_some]
  show spec_Digest.l0 k (padM l) h0List kList 0 = some (digM l)
  exact e2 k (by omega)
theorem impl_Digest_ev (l : List Int) (hl : l.length ≤ 10000000000000) : Ev (fun k => impl_Digest.f k l) (digM l) := by
  have hm := padM_mod l
  have hle := padM_len_le l
  have hlen := padM_length l
  obtain ⟨K1, e1⟩ := Ev.get (impl_Padded_ev l hl)
  refine ⟨K1, fun k hk => ?_⟩
  show impl_Digest.f k l = some (digM l)
  unfold impl_Digest.f dg_Digest.f
  rw [e1 _ hk, Option.bind_some, if_pos ⟨by omega, hm, by omega⟩]
  rfl
end Go.Proofs.Ytgaalomhipfgjaa.P
namespace Go.Proofs.Ytgaalomhipfgjaa.P
open Go.RowKit Go.Proofs.YtgaalomhipfgjaaW.PrintWords Go.Proofs.YtgaalomhipfgjaaW.PrintLast Go.Proofs.YtgaalomhipfgjaaW.PrintMore
theorem strOfNums_size (l : List Int) : (strOfNums l).size = l.length := by
  unfold strOfNums
  simp [ByteArray.size]
theorem digM_size (l : List Int) : (digM l).size = 32 := by
  unfold digM
  rw [strOfNums_size, digB_length]
def nodeB (a b : ByteArray) : List Int := [1] ++ bytesOf a ++ bytesOf b
def nodeM (a b : ByteArray) : ByteArray := digM (nodeB a b)
def leafB (a b : ByteArray) : List Int := putTextM (putTextM [0] a) b
def leafM (a b : ByteArray) : ByteArray := digM (leafB a b)
def topB (n : Int) (s : ByteArray) : List Int := putNumM [2] n ++ bytesOf s
theorem nodeB_by (a b : ByteArray) : By (nodeB a b) := By.app (By.app (By.one (by omega) (by omega)) (By.bytesOf _)) (By.bytesOf _)
theorem nodeB_length (a b : ByteArray) : (nodeB a b).length = a.size + b.size + 1 := by
  have h : (nodeB a b).length = 1 + (bytesOf a).length + (bytesOf b).length := by
    unfold nodeB
    rw [List.length_append, List.length_append]
    rfl
  rw [h, bytesOf_length, bytesOf_length]
  omega
theorem leafB_by (a b : ByteArray) : By (leafB a b) := putTextM_by (putTextM_by (By.one (by omega) (by omega)) _) _
theorem leafB_len (a b : ByteArray) : (leafB a b).length ≤ a.size + b.size + 11 := by
  have h1 := putTextM_len [0] a
  have h2 := putTextM_len (putTextM [0] a) b
  unfold leafB
  simp at h1
  omega
theorem topB_by (n : Int) (s : ByteArray) : By (topB n s) := By.app (putNumM_by (By.one (by omega) (by omega)) _) (By.bytesOf _)
theorem topB_len (n : Int) (s : ByteArray) : (topB n s).length ≤ s.size + 6 := by
  have h1 := putNumM_len [2] n
  unfold topB
  rw [List.length_append, bytesOf_length]
  simp at h1
  omega
theorem nodeM_size (a b : ByteArray) : (nodeM a b).size = 32 := digM_size _
theorem leafM_size (a b : ByteArray) : (leafM a b).size = 32 := digM_size _
theorem spec_l4Node_eq (a b : ByteArray) (ha : a.size ≤ 1000000000000) (hb : b.size ≤ 1000000000000) : spec_l4Node.f a b = some (nodeB a b) := by
  unfold spec_l4Node.f
  rw [Option.bind_some, if_pos (by simp; omega), Option.bind_some, if_pos (by simp [bytesOf_length]; omega)]
  rfl
theorem spec_NodeOf_ev (a b : ByteArray) (ha : a.size ≤ 1000000000000) (hb : b.size ≤ 1000000000000) : Ev (fun k => spec_NodeOf.f k a b) (nodeM a b) := by
  obtain ⟨K1, e1⟩ := Ev.get (spec_Digest_ev (nodeB a b) (nodeB_by a b) (by rw [nodeB_length]; omega))
  refine ⟨K1, fun k hk => ?_⟩
  show spec_NodeOf.f k a b = _
  unfold spec_NodeOf.f
  rw [spec_l4Node_eq a b ha hb, Option.bind_some, e1 _ hk, Option.bind_some]
  rfl
theorem impl_nodeBytes_eq (a b : ByteArray) (ha : a.size ≤ 1000000000000) (hb : b.size ≤ 1000000000000) : impl_nodeBytes.f a b = some (nodeB a b) := by
  unfold impl_nodeBytes.f
  rw [Option.bind_some, if_pos (by simp; omega), Option.bind_some, if_pos (by simp [bytesOf_length]; omega)]
  rfl
theorem impl_NodeOf_ev (a b : ByteArray) (ha : a.size ≤ 1000000000000) (hb : b.size ≤ 1000000000000) : Ev (fun k => impl_NodeOf.f k a b) (nodeM a b) := by
  obtain ⟨K1, e1⟩ := Ev.get (impl_Digest_ev (nodeB a b) (by rw [nodeB_length]; omega))
  refine ⟨K1, fun k hk => ?_⟩
  show impl_NodeOf.f k a b = _
  unfold impl_NodeOf.f
  rw [impl_nodeBytes_eq a b ha hb, Option.bind_some, e1 _ hk, Option.bind_some]
  rfl
theorem spec_l4Leaf_ev (a b : ByteArray) (ha : a.size ≤ 1000000000000) (hb : b.size ≤ 1000000000000) : Ev (fun k => spec_l4Leaf.f k a b) (leafB a b) := by
  have h1 := putTextM_len [0] a
  simp at h1
  obtain ⟨K1, e1⟩ := Ev.get (spec_PutText_ev [0] a (by simp) (by omega))
  obtain ⟨K2, e2⟩ := Ev.get (spec_PutText_ev (putTextM [0] a) b (by omega) (by omega))
  refine ⟨K1 + K2, fun k hk => ?_⟩
  show spec_l4Leaf.f k a b = _
  unfold spec_l4Leaf.f
  rw [e1 _ (by omega), Option.bind_some, e2 _ (by omega), Option.bind_some]
  rfl
theorem spec_LeafOf_ev (a b : ByteArray) (ha : a.size ≤ 1000000000000) (hb : b.size ≤ 1000000000000) : Ev (fun k => spec_LeafOf.f k a b) (leafM a b) := by
  have hl := leafB_len a b
  obtain ⟨K1, e1⟩ := Ev.get (spec_l4Leaf_ev a b ha hb)
  obtain ⟨K2, e2⟩ := Ev.get (spec_Digest_ev (leafB a b) (leafB_by a b) (by omega))
  refine ⟨K1 + K2, fun k hk => ?_⟩
  show spec_LeafOf.f k a b = _
  unfold spec_LeafOf.f
  rw [e1 _ (by omega), Option.bind_some, e2 _ (by omega), Option.bind_some]
  rfl
theorem impl_leafBytes_ev (a b : ByteArray) (ha : a.size ≤ 1000000000000) (hb : b.size ≤ 1000000000000) : Ev (fun k => impl_leafBytes.f k a b) (leafB a b) := by
  have h1 := putTextM_len [0] a
  simp at h1
  obtain ⟨K1, e1⟩ := Ev.get (impl_putText_ev [0] a (by simp) (by omega))
  obtain ⟨K2, e2⟩ := Ev.get (impl_putText_ev (putTextM [0] a) b (by omega) (by omega))
  refine ⟨K1 + K2, fun k hk => ?_⟩
  show impl_leafBytes.f k a b = _
  unfold impl_leafBytes.f
  rw [e1 _ (by omega), Option.bind_some, e2 _ (by omega), Option.bind_some]
  rfl
theorem impl_LeafOf_ev (a b : ByteArray) (ha : a.size ≤ 1000000000000) (hb : b.size ≤ 1000000000000) : Ev (fun k => impl_LeafOf.f k a b) (leafM a b) := by
  have hl := leafB_len a b
  obtain ⟨K1, e1⟩ := Ev.get (impl_leafBytes_ev a b ha hb)
  obtain ⟨K2, e2⟩ := Ev.get (impl_Digest_ev (leafB a b) (by omega))
  refine ⟨K1 + K2, fun k hk => ?_⟩
  show impl_LeafOf.f k a b = _
  unfold impl_LeafOf.f
  rw [e1 _ (by omega), Option.bind_some, e2 _ (by omega), Option.bind_some]
  rfl
def halfG (x n : Nat) : Nat := if h : 0 < x ∧ 2 * x < n then halfG (2 * x) n else x
termination_by n - x
def halfM (n : Nat) : Nat := halfG 1 n
theorem halfG_lt : ∀ (d x n : Nat), n - x = d → 0 < x → x < n → halfG x n < n ∧ x ≤ halfG x n := by
  intro d
  induction d using Nat.strongRecOn with
  | _ d ih =>
    intro x n hd hx hn
    rw [halfG]
    by_cases h : 0 < x ∧ 2 * x < n
    · rw [dif_pos h]
      have := ih (n - 2 * x) (by omega) (2 * x) n rfl (by omega) h.2
      omega
    · rw [dif_neg h]
      omega
theorem halfM_lt {n : Nat} (h : 2 ≤ n) : halfM n < n ∧ 1 ≤ halfM n := halfG_lt _ 1 n rfl (by omega) (by omega)
theorem spec_l4Half_l0 : ∀ (d x n : Nat), n - x = d → 0 < x → x ≤ n → n ≤ 1000000000000 → Ev (fun k => spec_l4Half.l0 k (n : Int) (x : Int)) (halfG x n : Int) := by
  intro d
  induction d using Nat.strongRecOn with
  | _ d ih =>
    intro x n hd hx hn hb
    rw [halfG]
    have e : wrap64 (2 * (x : Int)) = ((2 * x : Nat) : Int) := by rw [w64 (by omega) (by omega)]; omega
    by_cases h : 0 < x ∧ 2 * x < n
    · rw [dif_pos h]
      refine Ev.up (ih (n - 2 * x) (by omega) (2 * x) n rfl (by omega) (by omega) hb) (fun k hk => ?_)
      simp only [spec_l4Half.l0]
      rw [e, if_pos (by omega)]
      exact hk
    · rw [dif_neg h]
      refine Ev.up (Ev.now _) (fun k _ => ?_)
      simp only [spec_l4Half.l0]
      rw [e, if_neg (by omega)]
theorem spec_l4Half_ev (n : Nat) (h : 1 ≤ n) (hb : n ≤ 1000000000000) : Ev (fun k => spec_l4Half.f k (n : Int)) (halfM n : Int) :=
  (spec_l4Half_l0 _ 1 n rfl (by omega) h hb).congr (fun k => rfl)
theorem impl_half_l0 : ∀ (d x n : Nat), n - x = d → 0 < x → x ≤ n → n ≤ 1000000000000 → Ev (fun k => impl_half.l0 k (n : Int) (x : Int)) (halfG x n : Int) := by
  intro d
  induction d using Nat.strongRecOn with
  | _ d ih =>
    intro x n hd hx hn hb
    rw [halfG]
    have e : wrap64 (2 * (x : Int)) = ((2 * x : Nat) : Int) := by rw [w64 (by omega) (by omega)]; omega
    have e' : wrap64 ((x : Int) * 2) = ((2 * x : Nat) : Int) := by rw [w64 (by omega) (by omega)]; omega
    by_cases h : 0 < x ∧ 2 * x < n
    · rw [dif_pos h]
      refine Ev.up (ih (n - 2 * x) (by omega) (2 * x) n rfl (by omega) (by omega) hb) (fun k hk => ?_)
      simp only [impl_half.l0]
      rw [e, e', if_pos (by omega)]
      exact hk
    · rw [dif_neg h]
      refine Ev.up (Ev.now _) (fun k _ => ?_)
      simp only [impl_half.l0]
      rw [e, if_neg (by omega)]
theorem impl_half_ev (n : Nat) (h : 1 ≤ n) (hb : n ≤ 1000000000000) : Ev (fun k => impl_half.f k (n : Int)) (halfM n : Int) :=
  (impl_half_l0 _ 1 n rfl (by omega) h hb).congr (fun k => rfl)
def Few (l : List S26) : Prop := ∀ p ∈ l, p.f0.size ≤ 1000000000000 ∧ p.f1.size ≤ 1000000000000
theorem Few.take {l : List S26} (h : Few l) (n : Nat) : Few (l.take n) := fun p hp => h p (List.mem_of_mem_take hp)
theorem Few.drop {l : List S26} (h : Few l) (n : Nat) : Few (l.drop n) := fun p hp => h p (List.mem_of_mem_drop hp)
def innerM (l : List S26) : ByteArray :=
  if h : 2 ≤ l.length then nodeM (innerM (l.take (halfM l.length))) (innerM (l.drop (halfM l.length)))
  else match l with
    | [] => digM []
    | p :: _ => leafM p.f0 p.f1
termination_by l.length
decreasing_by
  · have := halfM_lt h
    rw [List.length_take]
    omega
  · have := halfM_lt h
    rw [List.length_drop]
    omega
theorem innerM_nil : innerM [] = digM [] := by rw [innerM]; rfl
theorem innerM_one (p : S26) : innerM [p] = leafM p.f0 p.f1 := by rw [innerM]; rfl
theorem innerM_two (l : List S26) (h : 2 ≤ l.length) : innerM l = nodeM (innerM (l.take (halfM l.length))) (innerM (l.drop (halfM l.length))) := by
  rw [innerM, dif_pos h]
theorem innerM_size (l : List S26) : (innerM l).size = 32 := by
  by_cases h : 2 ≤ l.length
  · rw [innerM_two l h]
    exact nodeM_size _ _
  · match l, h with
    | [], _ => rw [innerM_nil]; exact digM_size _
    | [p], _ => rw [innerM_one]; exact leafM_size _ _
    | _ :: _ :: _, h => simp at h
def rootM (l : List S26) : ByteArray := digM (topB l.length (innerM l))
theorem spec_l4Inner_ev : ∀ (n : Nat) (l : List S26), l.length = n → n ≤ 1000000000000 → Few l → Ev (fun k => spec_l4Inner.f k l) (innerM l) := by
  intro n
  induction n using Nat.strongRecOn with
  | _ n ih =>
    intro l hl hn hf
    by_cases h : 2 ≤ l.length
    · have hh := halfM_lt h
      have l1 : (l.take (halfM l.length)).length = halfM l.length := by rw [List.length_take]; omega
      have l2 : (l.drop (halfM l.length)).length = l.length - halfM l.length := List.length_drop
      obtain ⟨K1, e1⟩ := Ev.get (spec_l4Half_ev l.length (by omega) (by omega))
      obtain ⟨K2, e2⟩ := Ev.get (ih _ (by omega) (l.take (halfM l.length)) l1 (by omega) (hf.take _))
      obtain ⟨K3, e3⟩ := Ev.get (ih _ (by omega) (l.drop (halfM l.length)) l2 (by omega) (hf.drop _))
      obtain ⟨K4, e4⟩ := Ev.get (spec_NodeOf_ev (innerM (l.take (halfM l.length))) (innerM (l.drop (halfM l.length))) (by rw [innerM_size]; omega) (by rw [innerM_size]; omega))
      refine ⟨K1 + K2 + K3 + K4 + 1, fun k hk => ?_⟩
      obtain ⟨k, rfl⟩ : ∃ m, k = m + 1 := ⟨k - 1, by omega⟩
      show spec_l4Inner.f (k + 1) l = _
      simp only [spec_l4Inner.f]
      rw [if_neg (by omega), if_neg (by omega), e1 _ (by omega), Option.bind_some, if_pos (by omega), if_pos (by omega), Int.toNat_natCast, e2 _ (by omega), Option.bind_some, e3 _ (by omega), Option.bind_some, e4 _ (by omega), Option.bind_some, ← innerM_two l h]
    · match l, h, hf with
      | [], _, _ =>
        rw [innerM_nil]
        refine Ev.up (spec_Digest_ev [] By.nil (by simp)) (fun k hk => ?_)
        simp only [spec_l4Inner.f]
        rw [if_pos (by simp), hk, Option.bind_some]
      | [p], _, hf =>
        have := hf p (by simp)
        rw [innerM_one]
        refine Ev.up (spec_LeafOf_ev p.f0 p.f1 this.1 this.2) (fun k hk => ?_)
        simp only [spec_l4Inner.f]
        have hp : rd_T26 [p] 0 = p := rfl
        rw [if_neg (by simp), if_pos (by simp), if_pos (by simp), hp, hk, Option.bind_some]
      | _ :: _ :: _, h, _ => simp at h
theorem impl_innerOf_ev : ∀ (n : Nat) (l : List S26), l.length = n → n ≤ 1000000000000 → Few l → Ev (fun k => impl_innerOf.f k l) (innerM l) := by
  intro n
  induction n using Nat.strongRecOn with
  | _ n ih =>
    intro l hl hn hf
    by_cases h : 2 ≤ l.length
    · have hh := halfM_lt h
      have l1 : (l.take (halfM l.length)).length = halfM l.length := by rw [List.length_take]; omega
      have l2 : (l.drop (halfM l.length)).length = l.length - halfM l.length := List.length_drop
      obtain ⟨K1, e1⟩ := Ev.get (impl_half_ev l.length (by omega) (by omega))
      obtain ⟨K2, e2⟩ := Ev.get (ih _ (by omega) (l.take (halfM l.length)) l1 (by omega) (hf.take _))
      obtain ⟨K3, e3⟩ := Ev.get (ih _ (by omega) (l.drop (halfM l.length)) l2 (by omega) (hf.drop _))
      obtain ⟨K4, e4⟩ := Ev.get (impl_NodeOf_ev (innerM (l.take (halfM l.length))) (innerM (l.drop (halfM l.length))) (by rw [innerM_size]; omega) (by rw [innerM_size]; omega))
      refine ⟨K1 + K2 + K3 + K4 + 1, fun k hk => ?_⟩
      obtain ⟨k, rfl⟩ : ∃ m, k = m + 1 := ⟨k - 1, by omega⟩
      show impl_innerOf.f (k + 1) l = _
      simp only [impl_innerOf.f]
      rw [if_neg (by omega), if_neg (by omega), e1 _ (by omega), Option.bind_some, if_pos (by omega), if_pos (by omega), Int.toNat_natCast, e2 _ (by omega), Option.bind_some, e3 _ (by omega), Option.bind_some, e4 _ (by omega), Option.bind_some, ← innerM_two l h]
    · match l, h, hf with
      | [], _, _ =>
        rw [innerM_nil]
        refine Ev.up (impl_Digest_ev [] (by simp)) (fun k hk => ?_)
        simp only [impl_innerOf.f]
        rw [if_pos (by simp), hk, Option.bind_some]
      | [p], _, hf =>
        have := hf p (by simp)
        rw [innerM_one]
        refine Ev.up (impl_LeafOf_ev p.f0 p.f1 this.1 this.2) (fun k hk => ?_)
        simp only [impl_innerOf.f]
        have hp : rd_T26 [p] 0 = p := rfl
        rw [if_neg (by simp), if_pos (by simp), if_pos (by simp), hp, hk, Option.bind_some]
      | _ :: _ :: _, h, _ => simp at h
theorem spec_l4Top_ev (n : Int) (s : ByteArray) (h : s.size ≤ 1000000000000) : Ev (fun k => spec_l4Top.f k n s) (topB n s) := by
  have hl := putNumM_len [2] n
  simp at hl
  obtain ⟨K1, e1⟩ := Ev.get (spec_PutNum_ev [2] n (by simp))
  refine ⟨K1, fun k hk => ?_⟩
  show spec_l4Top.f k n s = _
  unfold spec_l4Top.f
  rw [e1 _ hk, Option.bind_some, if_pos (by omega)]
  rfl
theorem impl_rootBytes_ev (n : Int) (s : ByteArray) (h : s.size ≤ 1000000000000) : Ev (fun k => impl_rootBytes.f k n s) (topB n s) := by
  have hl := putNumM_len [2] n
  simp at hl
  obtain ⟨K1, e1⟩ := Ev.get (impl_putNum_ev [2] n (by simp))
  refine ⟨K1, fun k hk => ?_⟩
  show impl_rootBytes.f k n s = _
  unfold impl_rootBytes.f
  rw [e1 _ hk, Option.bind_some, if_pos (by omega)]
  rfl
theorem spec_l4Root_ev (l : List S26) (hn : l.length ≤ 1000000000000) (hf : Few l) : Ev (fun k => spec_l4Root.f k l) (rootM l) := by
  have hs := innerM_size l
  have ht := topB_len l.length (innerM l)
  obtain ⟨K1, e1⟩ := Ev.get (spec_l4Inner_ev _ l rfl hn hf)
  obtain ⟨K2, e2⟩ := Ev.get (spec_l4Top_ev l.length (innerM l) (by omega))
  obtain ⟨K3, e3⟩ := Ev.get (spec_Digest_ev (topB l.length (innerM l)) (topB_by _ _) (by omega))
  refine ⟨K1 + K2 + K3, fun k hk => ?_⟩
  show spec_l4Root.f k l = _
  unfold spec_l4Root.f
  rw [e1 _ (by omega), Option.bind_some, e2 _ (by omega), Option.bind_some, e3 _ (by omega), Option.bind_some]
  rfl
theorem impl_rootOf_ev (l : List S26) (hn : l.length ≤ 1000000000000) (hf : Few l) : Ev (fun k => impl_rootOf.f k l) (rootM l) := by
  have hs := innerM_size l
  have ht := topB_len l.length (innerM l)
  obtain ⟨K1, e1⟩ := Ev.get (impl_innerOf_ev _ l rfl hn hf)
  obtain ⟨K2, e2⟩ := Ev.get (impl_rootBytes_ev l.length (innerM l) (by omega))
  obtain ⟨K3, e3⟩ := Ev.get (impl_Digest_ev (topB l.length (innerM l)) (by omega))
  refine ⟨K1 + K2 + K3, fun k hk => ?_⟩
  show impl_rootOf.f k l = _
  unfold impl_rootOf.f
  rw [e1 _ (by omega), Option.bind_some, e2 _ (by omega), Option.bind_some, e3 _ (by omega), Option.bind_some]
  rfl
end Go.Proofs.Ytgaalomhipfgjaa.P
namespace Go.Proofs.Ytgaalomhipfgjaa.P
open Go.RowKit Go.Proofs.YtgaalomhipfgjaaW.PrintWords Go.Proofs.YtgaalomhipfgjaaW.PrintLast Go.Proofs.YtgaalomhipfgjaaW.PrintMore
theorem bytesOf_strOfNums {l : List Int} (h : By l) : bytesOf (strOfNums l) = l := by
  unfold bytesOf strOfNums
  simp only [List.map_map]
  conv => rhs; rw [← List.map_id l]
  apply List.map_congr_left
  intro x hx
  have := h x hx
  simp only [Function.comp_apply, id_eq]
  rw [UInt8.toNat_ofNat_of_lt' (by simp [UInt8.size]; omega)]
  omega
def lastL (l : List (List Int)) : List Int := l.getLast?.getD []
def lastS (l : List ByteArray) : ByteArray := l.getLast?.getD ByteArray.empty
def climbR (leaf : List Int) (n i : Nat) (path : List ByteArray) : List (List Int) × Bool :=
  if h : 2 ≤ n then
    if path.length = 0 then ([], false)
    else if i < halfM n then
      if (climbR leaf (halfM n) i (path.take (path.length - 1))).2 = true then
        ((climbR leaf (halfM n) i (path.take (path.length - 1))).1 ++ [nodeB (digM (lastL (climbR leaf (halfM n) i (path.take (path.length - 1))).1)) (lastS path)], true)
      else ([], false)
    else
      if (climbR leaf (n - halfM n) (i - halfM n) (path.take (path.length - 1))).2 = true then
        ((climbR leaf (n - halfM n) (i - halfM n) (path.take (path.length - 1))).1 ++ [nodeB (lastS path) (digM (lastL (climbR leaf (n - halfM n) (i - halfM n) (path.take (path.length - 1))).1))], true)
      else ([], false)
  else ([leaf], path.length == 0)
termination_by n
decreasing_by all_goals (have := halfM_lt h; omega)
def wayR (leaf : List Int) (n i : Nat) (path : List ByteArray) : List (List Int) × Bool :=
  if (climbR leaf n i path).2 = true then ((climbR leaf n i path).1 ++ [topB n (digM (lastL (climbR leaf n i path).1))], true) else ([], false)
def checkM (leaf : List Int) (i n : Int) (path : List ByteArray) (root : ByteArray) : Bool :=
  if (1 ≤ n ∧ n ≤ 60) ∧ 0 ≤ i ∧ i < n then
    (if (wayR leaf n.toNat i.toNat path).2 = true then (digM (lastL (wayR leaf n.toNat i.toNat path).1)).toList == root.toList else false)
  else false
def FewS (l : List ByteArray) : Prop := ∀ s ∈ l, s.size ≤ 10000000
def Ways (l : List (List Int)) : Prop := ∀ x ∈ l, By x ∧ x.length ≤ 100000000
theorem FewS.take {l : List ByteArray} (h : FewS l) (n : Nat) : FewS (l.take n) := fun p hp => h p (List.mem_of_mem_take hp)
theorem lastS_few {l : List ByteArray} (h : FewS l) : (lastS l).size ≤ 10000000 := by
  unfold lastS
  cases hl : l.getLast? with
  | none => show ByteArray.empty.size ≤ _; simp
  | some s => exact h s (List.mem_of_getLast? hl)
theorem lastL_ways {l : List (List Int)} (h : Ways l) : By (lastL l) ∧ (lastL l).length ≤ 100000000 := by
  unfold lastL
  cases hl : l.getLast? with
  | none => exact ⟨By.nil, by simp⟩
  | some s => exact h s (List.mem_of_getLast? hl)
theorem Ways.snoc {l : List (List Int)} (h : Ways l) {x : List Int} (hb : By x) (hl : x.length ≤ 100000000) : Ways (l ++ [x]) := fun y hy => by
  rcases List.mem_append.1 hy with h1 | h1
  · exact h y h1
  · rw [List.mem_singleton.1 h1]; exact ⟨hb, hl⟩
theorem climbR_ok {leaf : List Int} (hb : By leaf) (hl : leaf.length ≤ 100000000) : ∀ (n i : Nat) (path : List ByteArray), FewS path →
    Ways (climbR leaf n i path).1 ∧ (climbR leaf n i path).1.length ≤ n + 1 ∧ ((climbR leaf n i path).2 = true → 0 < (climbR leaf n i path).1.length) := by
  intro n
  induction n using Nat.strongRecOn with
  | _ n ih =>
    intro i path hp
    rw [climbR]
    by_cases h : 2 ≤ n
    · have hh := halfM_lt h
      rw [dif_pos h]
      by_cases h0 : path.length = 0
      · rw [if_pos h0]
        exact ⟨fun _ hx => absurd hx (List.not_mem_nil), by simp, fun e => by simp at e⟩
      · rw [if_neg h0]
        have hs := lastS_few hp
        by_cases hi : i < halfM n
        · rw [if_pos hi]
          obtain ⟨i1, i2, i3⟩ := ih (halfM n) (by omega) i _ (hp.take (path.length - 1))
          generalize climbR leaf (halfM n) i (path.take (path.length - 1)) = r at *
          by_cases hr : r.2 = true
          · rw [if_pos hr]
            have hd := digM_size (lastL r.1)
            exact ⟨i1.snoc (nodeB_by _ _) (by rw [nodeB_length]; omega), by simp; omega, fun _ => by simp⟩
          · rw [if_neg hr]
            exact ⟨fun _ hx => absurd hx (List.not_mem_nil), by simp, fun e => by simp at e⟩
        · rw [if_neg hi]
          obtain ⟨i1, i2, i3⟩ := ih (n - halfM n) (by omega) (i - halfM n) _ (hp.take (path.length - 1))
          generalize climbR leaf (n - halfM n) (i - halfM n) (path.take (path.length - 1)) = r at *
          by_cases hr : r.2 = true
          · rw [if_pos hr]
            have hd := digM_size (lastL r.1)
            exact ⟨i1.snoc (nodeB_by _ _) (by rw [nodeB_length]; omega), by simp; omega, fun _ => by simp⟩
          · rw [if_neg hr]
            exact ⟨fun _ hx => absurd hx (List.not_mem_nil), by simp, fun e => by simp at e⟩
    · rw [dif_neg h]
      exact ⟨fun x hx => by rw [List.mem_singleton.1 hx]; exact ⟨hb, hl⟩, by simp, fun _ => by simp⟩
theorem rd_last (path : List ByteArray) (h : 0 < path.length) : rdOf ByteArray.empty path (wrap64 ((path.length : Int) - 1)) = lastS path ∨ ¬ path.length ≤ 1000000000000 := by
  by_cases hb : path.length ≤ 1000000000000
  · left
    rw [w64 (by omega) (by omega), show (path.length : Int) - 1 = ((path.length - 1 : Nat) : Int) by omega, rdOf_nat path _ (by omega)]
    unfold lastS
    rw [List.getLast?_eq_getElem?, List.getElem?_eq_getElem (by omega)]
    rfl
  · exact .inr hb
theorem rd_last' (path : List ByteArray) (h : 0 < path.length) (hb : path.length ≤ 1000000000000) : rdOf ByteArray.empty path ((path.length - 1 : Nat) : Int) = lastS path := by
  rw [rdOf_nat path _ (by omega)]
  unfold lastS
  rw [List.getLast?_eq_getElem?, List.getElem?_eq_getElem (by omega)]
  rfl
theorem lastS_map {l : List (List Int)} (h : 0 < l.length) : lastS (l.map strOfNums) = strOfNums (lastL l) := by
  unfold lastS lastL
  rw [List.getLast?_map]
  cases hl : l.getLast? with
  | none => rw [List.getLast?_eq_none_iff] at hl; subst hl; simp at h
  | some s => rfl
theorem rdL2_last (l : List (List Int)) (h : 0 < l.length) : rd_L8 l ((l.length - 1 : Nat) : Int) = lastL l := by
  unfold rd_L8 lastL
  rw [List.getLast?_eq_getElem?]
  simp [List.getD_eq_getElem?_getD]
theorem impl_climb_ev (a b : ByteArray) (ha : a.size ≤ 10000000) (hb : b.size ≤ 10000000) : ∀ (n i : Nat) (path : List ByteArray), 1 ≤ n → n ≤ 1000 → i < n → FewS path → path.length ≤ 1000000000 →
    Ev (fun k => impl_climb.f k a b (i : Int) (n : Int) path) (climbR (leafB a b) n i path) := by
  have hlb := leafB_by a b
  have hll := leafB_len a b
  intro n
  induction n using Nat.strongRecOn with
  | _ n ih =>
    intro i path h1 hn hi hp hpl
    rw [climbR]
    by_cases h : 2 ≤ n
    · have hh := halfM_lt h
      rw [dif_pos h]
      by_cases h0 : path.length = 0
      · rw [if_pos h0]
        refine Ev.up (Ev.now _) (fun k _ => ?_)
        simp only [impl_climb.f]
        rw [if_neg (by omega), w64 (by omega) (by omega), if_pos (by omega)]
      · rw [if_neg h0]
        have hs := lastS_few hp
        have ew : wrap64 ((path.length : Int) - 1) = ((path.length - 1 : Nat) : Int) := by rw [w64 (by omega) (by omega)]; omega
        have hr := rd_last' path (by omega) (by omega)
        obtain ⟨K1, e1⟩ := Ev.get (impl_half_ev n (by omega) (by omega))
        by_cases hi2 : i < halfM n
        · rw [if_pos hi2]
          obtain ⟨j1, j2, j3⟩ := climbR_ok hlb (by omega) (halfM n) i _ (hp.take (path.length - 1))
          obtain ⟨K2, e2⟩ := Ev.get (ih (halfM n) (by omega) i (path.take (path.length - 1)) (by omega) (by omega) hi2 (hp.take _) (by rw [List.length_take]; omega))
          generalize climbR (leafB a b) (halfM n) i (path.take (path.length - 1)) = r at *
          obtain ⟨K3, e3⟩ := Ev.get (impl_Digest_ev (lastL r.1) (by have := (lastL_ways j1).2; omega))
          have hd := digM_size (lastL r.1)
          refine ⟨K1 + K2 + K3 + 2, fun k hk => ?_⟩
          obtain ⟨k, rfl⟩ : ∃ m, k = m + 2 := ⟨k - 2, by omega⟩
          show impl_climb.f (k + 2) a b _ _ path = _
          simp only [impl_climb.f]
          rw [if_neg (by omega), ew, if_neg (by omega), e1 _ (by omega), Option.bind_some, if_neg (by omega)]
          simp only [impl_climb.j0]
          rw [if_pos (by omega), if_pos (by omega), Int.toNat_natCast, e2 _ (by omega), Option.bind_some]
          by_cases hrt : r.2 = true
          · have hl0 := j3 hrt
            have ew2 : wrap64 ((r.1.length : Int) - 1) = ((r.1.length - 1 : Nat) : Int) := by rw [w64 (by omega) (by omega)]; omega
            rw [if_pos hrt, if_pos hrt, ew2, if_pos (by omega), if_pos (by omega), rdL2_last r.1 hl0, e3 _ (by omega), Option.bind_some, if_neg (by simp; omega), if_pos (by omega), hr, impl_nodeBytes_eq _ _ (by omega) (by omega), Option.bind_some, if_pos (by omega)]
          · rw [if_neg hrt, if_neg hrt]
        · rw [if_neg hi2]
          obtain ⟨j1, j2, j3⟩ := climbR_ok hlb (by omega) (n - halfM n) (i - halfM n) _ (hp.take (path.length - 1))
          obtain ⟨K2, e2⟩ := Ev.get (ih (n - halfM n) (by omega) (i - halfM n) (path.take (path.length - 1)) (by omega) (by omega) (by omega) (hp.take _) (by rw [List.length_take]; omega))
          generalize climbR (leafB a b) (n - halfM n) (i - halfM n) (path.take (path.length - 1)) = r at *
          obtain ⟨K3, e3⟩ := Ev.get (impl_Digest_ev (lastL r.1) (by have := (lastL_ways j1).2; omega))
          have hd := digM_size (lastL r.1)
          have ei : wrap64 ((i : Int) - (halfM n : Int)) = ((i - halfM n : Nat) : Int) := by rw [w64 (by omega) (by omega)]; omega
          have en : wrap64 ((n : Int) - (halfM n : Int)) = ((n - halfM n : Nat) : Int) := by rw [w64 (by omega) (by omega)]; omega
          refine ⟨K1 + K2 + K3 + 2, fun k hk => ?_⟩
          obtain ⟨k, rfl⟩ : ∃ m, k = m + 2 := ⟨k - 2, by omega⟩
          show impl_climb.f (k + 2) a b _ _ path = _
          simp only [impl_climb.f]
          rw [if_neg (by omega), ew, if_neg (by omega), e1 _ (by omega), Option.bind_some, if_pos (by omega), ei, en]
          simp only [impl_climb.j0]
          rw [if_pos (by omega), if_pos (by omega), Int.toNat_natCast, e2 _ (by omega), Option.bind_some]
          by_cases hrt : r.2 = true
          · have hl0 := j3 hrt
            have ew2 : wrap64 ((r.1.length : Int) - 1) = ((r.1.length - 1 : Nat) : Int) := by rw [w64 (by omega) (by omega)]; omega
            rw [if_pos hrt, if_pos hrt, ew2, if_pos (by omega), if_pos (by omega), rdL2_last r.1 hl0, e3 _ (by omega), Option.bind_some, if_pos (by simp; omega), if_pos (by omega), hr, impl_nodeBytes_eq _ _ (by omega) (by omega), Option.bind_some, if_pos (by omega)]
          · rw [if_neg hrt, if_neg hrt]
    · obtain rfl : n = 1 := by omega
      rw [dif_neg h]
      obtain ⟨K1, e1⟩ := Ev.get (impl_leafBytes_ev a b (by omega) (by omega))
      refine ⟨K1 + 1, fun k hk => ?_⟩
      obtain ⟨k, rfl⟩ : ∃ m, k = m + 1 := ⟨k - 1, by omega⟩
      show impl_climb.f (k + 1) a b _ _ path = _
      simp only [impl_climb.f]
      rw [if_pos (by omega), e1 _ (by omega), Option.bind_some]
      congr 2
      cases hq : path.length with
      | zero => rfl
      | succ m => simp; omega
theorem impl_wayTo_ev (a b : ByteArray) (ha : a.size ≤ 10000000) (hb : b.size ≤ 10000000) (n i : Nat) (path : List ByteArray) (h1 : 1 ≤ n) (hn : n ≤ 1000) (hi : i < n) (hp : FewS path) (hpl : path.length ≤ 1000000000) :
    Ev (fun k => impl_wayTo.f k a b (i : Int) (n : Int) path) (wayR (leafB a b) n i path) := by
  have hlb := leafB_by a b
  have hll := leafB_len a b
  obtain ⟨j1, j2, j3⟩ := climbR_ok hlb (by omega) n i path hp
  obtain ⟨K1, e1⟩ := Ev.get (impl_climb_ev a b ha hb n i path h1 hn hi hp hpl)
  unfold wayR
  generalize climbR (leafB a b) n i path = r at *
  obtain ⟨K2, e2⟩ := Ev.get (impl_Digest_ev (lastL r.1) (by have := (lastL_ways j1).2; omega))
  have hd := digM_size (lastL r.1)
  obtain ⟨K3, e3⟩ := Ev.get (impl_rootBytes_ev (n : Int) (digM (lastL r.1)) (by omega))
  refine ⟨K1 + K2 + K3, fun k hk => ?_⟩
  show impl_wayTo.f k a b _ _ path = _
  unfold impl_wayTo.f
  rw [e1 _ (by omega), Option.bind_some]
  by_cases hrt : r.2 = true
  · have hl0 := j3 hrt
    have ew2 : wrap64 ((r.1.length : Int) - 1) = ((r.1.length - 1 : Nat) : Int) := by rw [w64 (by omega) (by omega)]; omega
    rw [if_pos hrt, if_pos hrt, ew2, if_pos (by omega), if_pos (by omega), rdL2_last r.1 hl0, e2 _ (by omega), Option.bind_some, e3 _ (by omega), Option.bind_some, if_pos (by omega)]
  · rw [if_neg hrt, if_neg hrt]
theorem wayR_ok {leaf : List Int} (hb : By leaf) (hl : leaf.length ≤ 100000000) (n i : Nat) (path : List ByteArray) (hp : FewS path) :
    Ways (wayR leaf n i path).1 ∧ (wayR leaf n i path).1.length ≤ n + 2 ∧ ((wayR leaf n i path).2 = true → 0 < (wayR leaf n i path).1.length) := by
  obtain ⟨j1, j2, j3⟩ := climbR_ok hb hl n i path hp
  unfold wayR
  generalize climbR leaf n i path = r at *
  have hd := digM_size (lastL r.1)
  have ht := topB_len n (digM (lastL r.1))
  by_cases hrt : r.2 = true
  · rw [if_pos hrt]
    exact ⟨j1.snoc (topB_by _ _) (by omega), by simp; omega, fun _ => by simp⟩
  · rw [if_neg hrt]
    exact ⟨fun _ hx => absurd hx (List.not_mem_nil), by simp, fun e => by simp at e⟩
theorem inRange_eqP (a b c : Int) : impl_inRange.f a b c = some (decide (b ≤ a ∧ a ≤ c)) := by
  unfold impl_inRange.f
  by_cases h : a ≥ b
  · rw [if_pos h]
    congr 1
    by_cases h2 : a ≤ c <;> simp [h2, show b ≤ a from h]
  · rw [if_neg h]
    congr 1
    simp [show ¬ b ≤ a by omega]
theorem isPlace_eq (i n : Int) (hn : -9223372036854775808 ≤ n ∧ n ≤ 9223372036854775807) : impl_isPlace.f i n = some (decide ((1 ≤ n ∧ n ≤ 60) ∧ 0 ≤ i ∧ i < n)) := by
  unfold impl_isPlace.f
  rw [inRange_eqP, Option.bind_some]
  by_cases h : 1 ≤ n ∧ n ≤ 60
  · rw [if_pos (by simpa using h), inRange_eqP, w64 (by omega) (by omega), Option.bind_some]
    congr 1
    by_cases h2 : 0 ≤ i ∧ i < n
    · simp [h, h2]; omega
    · have : ¬ (0 ≤ i ∧ i ≤ n - 1) := by omega
      simp [h, h2, this]
  · rw [if_neg (by simpa using h)]
    simp [h]
theorem impl_CheckPath_ev (a b : ByteArray) (ha : a.size ≤ 10000000) (hb : b.size ≤ 10000000) (i n : Int) (hn : -9223372036854775808 ≤ n ∧ n ≤ 9223372036854775807) (path : List ByteArray) (hp : FewS path) (hpl : path.length ≤ 1000000000) (root : ByteArray) :
    Ev (fun k => impl_CheckPath.f k a b i n path root) (checkM (leafB a b) i n path root) := by
  have hlb := leafB_by a b
  have hll := leafB_len a b
  unfold checkM
  by_cases h : (1 ≤ n ∧ n ≤ 60) ∧ 0 ≤ i ∧ i < n
  · obtain ⟨m, rfl⟩ : ∃ m : Nat, n = (m : Int) := ⟨n.toNat, by omega⟩
    obtain ⟨j, rfl⟩ : ∃ j : Nat, i = (j : Int) := ⟨i.toNat, by omega⟩
    rw [if_pos h, Int.toNat_natCast, Int.toNat_natCast]
    obtain ⟨j1, j2, j3⟩ := wayR_ok hlb (by omega) m j path hp
    obtain ⟨K1, e1⟩ := Ev.get (impl_wayTo_ev a b ha hb m j path (by omega) (by omega) (by omega) hp hpl)
    generalize wayR (leafB a b) m j path = r at *
    obtain ⟨K2, e2⟩ := Ev.get (impl_Digest_ev (lastL r.1) (by have := (lastL_ways j1).2; omega))
    refine ⟨K1 + K2, fun k hk => ?_⟩
    show impl_CheckPath.f k a b _ _ path root = _
    unfold impl_CheckPath.f
    rw [isPlace_eq _ _ hn, Option.bind_some, if_pos (by simpa using h), e1 _ (by omega), Option.bind_some]
    by_cases hrt : r.2 = true
    · have hl0 := j3 hrt
      have ew2 : wrap64 ((r.1.length : Int) - 1) = ((r.1.length - 1 : Nat) : Int) := by rw [w64 (by omega) (by omega)]; omega
      rw [if_pos hrt, if_pos hrt, ew2, if_pos (by omega), if_pos (by omega), rdL2_last r.1 hl0, e2 _ (by omega), Option.bind_some]
    · rw [if_neg hrt, if_neg hrt]
  · rw [if_neg h]
    refine ⟨0, fun k hk => ?_⟩
    show impl_CheckPath.f k a b _ _ path root = _
    unfold impl_CheckPath.f
    rw [isPlace_eq _ _ hn, Option.bind_some, if_neg (by simpa using h)]
def strR (r : List (List Int) × Bool) : List ByteArray × Bool := (r.1.map strOfNums, r.2)
theorem spec_l4Hashed_ev (leaf : List Int) (hlb : By leaf) (hll : leaf.length ≤ 100000000) : ∀ (n i : Nat) (path : List ByteArray), 1 ≤ n → n ≤ 1000 → i < n → FewS path → path.length ≤ 1000000000 →
    Ev (fun k => spec_l4Hashed.f k leaf (i : Int) (n : Int) path) (strR (climbR leaf n i path)) := by
  intro n
  induction n using Nat.strongRecOn with
  | _ n ih =>
    intro i path h1 hn hi hp hpl
    rw [climbR]
    by_cases h : 2 ≤ n
    · have hh := halfM_lt h
      rw [dif_pos h]
      by_cases h0 : path.length = 0
      · rw [if_pos h0]
        refine Ev.up (Ev.now _) (fun k _ => ?_)
        simp only [spec_l4Hashed.f]
        rw [if_neg (by omega), if_pos (by omega)]
        rfl
      · rw [if_neg h0]
        have hs := lastS_few hp
        have ew : wrap64 ((path.length : Int) - 1) = ((path.length - 1 : Nat) : Int) := by rw [w64 (by omega) (by omega)]; omega
        have hr := rd_last' path (by omega) (by omega)
        obtain ⟨K1, e1⟩ := Ev.get (spec_l4Half_ev n (by omega) (by omega))
        by_cases hi2 : i < halfM n
        · rw [if_pos hi2]
          obtain ⟨j1, j2, j3⟩ := climbR_ok hlb hll (halfM n) i _ (hp.take (path.length - 1))
          obtain ⟨K2, e2⟩ := Ev.get (ih (halfM n) (by omega) i (path.take (path.length - 1)) (by omega) (by omega) hi2 (hp.take _) (by rw [List.length_take]; omega))
          generalize climbR leaf (halfM n) i (path.take (path.length - 1)) = r at *
          obtain ⟨lb, ll⟩ := lastL_ways j1
          obtain ⟨K3, e3⟩ := Ev.get (spec_Digest_ev (lastL r.1) lb (by omega))
          have hd := digM_size (lastL r.1)
          refine ⟨K1 + K2 + K3 + 2, fun k hk => ?_⟩
          obtain ⟨k, rfl⟩ : ∃ m, k = m + 2 := ⟨k - 2, by omega⟩
          show spec_l4Hashed.f (k + 2) leaf _ _ path = _
          simp only [spec_l4Hashed.f]
          rw [if_neg (by omega), if_neg (by omega), ew, if_pos (by omega), if_pos (by omega), e1 _ (by omega), Option.bind_some, if_neg (by omega), hr]
          simp only [spec_l4Hashed.j0]
          rw [ew, if_pos (by omega), if_pos (by omega), Int.toNat_natCast, e2 _ (by omega), Option.bind_some]
          unfold strR
          simp only
          by_cases hrt : r.2 = true
          · have hl0 := j3 hrt
            have hml : (r.1.map strOfNums).length = r.1.length := List.length_map _
            have ew2 : wrap64 (((r.1.map strOfNums).length : Int) - 1) = (((r.1.map strOfNums).length - 1 : Nat) : Int) := by rw [w64 (by omega) (by omega)]; omega
            rw [if_pos hrt, if_pos hrt, ew2, if_pos (by omega), if_pos (by omega), rd_last' _ (by omega) (by omega), lastS_map hl0, if_pos (by rw [strOfNums_size]; omega), bytesOf_strOfNums lb, e3 _ (by omega), Option.bind_some, if_pos (by omega), spec_l4Node_eq _ _ (by omega) (by omega), Option.bind_some, if_pos (by omega)]
            simp
          · rw [if_neg hrt, if_neg hrt]
            rfl
        · rw [if_neg hi2]
          obtain ⟨j1, j2, j3⟩ := climbR_ok hlb hll (n - halfM n) (i - halfM n) _ (hp.take (path.length - 1))
          obtain ⟨K2, e2⟩ := Ev.get (ih (n - halfM n) (by omega) (i - halfM n) (path.take (path.length - 1)) (by omega) (by omega) (by omega) (hp.take _) (by rw [List.length_take]; omega))
          generalize climbR leaf (n - halfM n) (i - halfM n) (path.take (path.length - 1)) = r at *
          obtain ⟨lb, ll⟩ := lastL_ways j1
          obtain ⟨K3, e3⟩ := Ev.get (spec_Digest_ev (lastL r.1) lb (by omega))
          have hd := digM_size (lastL r.1)
          have ei : wrap64 ((i : Int) - (halfM n : Int)) = ((i - halfM n : Nat) : Int) := by rw [w64 (by omega) (by omega)]; omega
          have en : wrap64 ((n : Int) - (halfM n : Int)) = ((n - halfM n : Nat) : Int) := by rw [w64 (by omega) (by omega)]; omega
          refine ⟨K1 + K2 + K3 + 2, fun k hk => ?_⟩
          obtain ⟨k, rfl⟩ : ∃ m, k = m + 2 := ⟨k - 2, by omega⟩
          show spec_l4Hashed.f (k + 2) leaf _ _ path = _
          simp only [spec_l4Hashed.f]
          rw [if_neg (by omega), if_neg (by omega), ew, if_pos (by omega), if_pos (by omega), e1 _ (by omega), Option.bind_some, if_pos (by omega), hr, ei, en]
          simp only [spec_l4Hashed.j0]
          rw [ew, if_pos (by omega), if_pos (by omega), Int.toNat_natCast, e2 _ (by omega), Option.bind_some]
          unfold strR
          simp only
          by_cases hrt : r.2 = true
          · have hl0 := j3 hrt
            have hml : (r.1.map strOfNums).length = r.1.length := List.length_map _
            have ew2 : wrap64 (((r.1.map strOfNums).length : Int) - 1) = (((r.1.map strOfNums).length - 1 : Nat) : Int) := by rw [w64 (by omega) (by omega)]; omega
            rw [if_pos hrt, if_pos hrt, ew2, if_pos (by omega), if_pos (by omega), rd_last' _ (by omega) (by omega), lastS_map hl0, if_pos (by rw [strOfNums_size]; omega), bytesOf_strOfNums lb, e3 _ (by omega), Option.bind_some, if_neg (by omega), spec_l4Node_eq _ _ (by omega) (by omega), Option.bind_some, if_pos (by omega)]
            simp
          · rw [if_neg hrt, if_neg hrt]
            rfl
    · obtain rfl : n = 1 := by omega
      rw [dif_neg h]
      refine Ev.up (Ev.now _) (fun k _ => ?_)
      simp only [spec_l4Hashed.f]
      rw [if_pos (by omega)]
      unfold strR
      congr 2
      cases hq : path.length with
      | zero => rfl
      | succ m => simp; omega
theorem spec_l4All_ev (leaf : List Int) (hlb : By leaf) (hll : leaf.length ≤ 100000000) (n i : Nat) (path : List ByteArray) (h1 : 1 ≤ n) (hn : n ≤ 1000) (hi : i < n) (hp : FewS path) (hpl : path.length ≤ 1000000000) :
    Ev (fun k => spec_l4All.f k leaf (i : Int) (n : Int) path) (strR (wayR leaf n i path)) := by
  obtain ⟨j1, j2, j3⟩ := climbR_ok hlb hll n i path hp
  obtain ⟨K1, e1⟩ := Ev.get (spec_l4Hashed_ev leaf hlb hll n i path h1 hn hi hp hpl)
  unfold wayR
  generalize climbR leaf n i path = r at *
  obtain ⟨lb, ll⟩ := lastL_ways j1
  obtain ⟨K2, e2⟩ := Ev.get (spec_Digest_ev (lastL r.1) lb (by omega))
  have hd := digM_size (lastL r.1)
  obtain ⟨K3, e3⟩ := Ev.get (spec_l4Top_ev (n : Int) (digM (lastL r.1)) (by omega))
  refine ⟨K1 + K2 + K3, fun k hk => ?_⟩
  show spec_l4All.f k leaf _ _ path = _
  unfold spec_l4All.f
  rw [e1 _ (by omega), Option.bind_some]
  unfold strR
  simp only
  by_cases hrt : r.2 = true
  · have hl0 := j3 hrt
    have hml : (r.1.map strOfNums).length = r.1.length := List.length_map _
    have ew2 : wrap64 (((r.1.map strOfNums).length : Int) - 1) = (((r.1.map strOfNums).length - 1 : Nat) : Int) := by rw [w64 (by omega) (by omega)]; omega
    rw [if_pos hrt, if_pos hrt, ew2, if_pos (by omega), if_pos (by omega), rd_last' _ (by omega) (by omega), lastS_map hl0, if_pos (by rw [strOfNums_size]; omega), bytesOf_strOfNums lb, e2 _ (by omega), Option.bind_some, e3 _ (by omega), Option.bind_some, if_pos (by omega)]
    simp
  · rw [if_neg hrt, if_neg hrt]
    rfl
theorem l1In_eqP (a b c : Int) : spec_l1In.f a b c = some (decide (b ≤ a ∧ a ≤ c)) := by
  unfold spec_l1In.f
  by_cases h : a ≥ b
  · rw [if_pos h]
    congr 1
    by_cases h2 : a ≤ c <;> simp [h2, show b ≤ a from h]
  · rw [if_neg h]
    congr 1
    simp [show ¬ b ≤ a by omega]
theorem spec_CheckPath_ev (a b : ByteArray) (ha : a.size ≤ 10000000) (hb : b.size ≤ 10000000) (i n : Int) (hn : -9223372036854775808 ≤ n ∧ n ≤ 9223372036854775807) (path : List ByteArray) (hp : FewS path) (hpl : path.length ≤ 1000000000) (root : ByteArray) :
    Ev (fun k => spec_CheckPath.f k a b i n path root) (checkM (leafB a b) i n path root) := by
  have hlb := leafB_by a b
  have hll := leafB_len a b
  unfold checkM
  by_cases h : (1 ≤ n ∧ n ≤ 60) ∧ 0 ≤ i ∧ i < n
  · obtain ⟨m, rfl⟩ : ∃ m : Nat, n = (m : Int) := ⟨n.toNat, by omega⟩
    obtain ⟨j, rfl⟩ : ∃ j : Nat, i = (j : Int) := ⟨i.toNat, by omega⟩
    rw [if_pos h, Int.toNat_natCast, Int.toNat_natCast]
    obtain ⟨j1, j2, j3⟩ := wayR_ok hlb (by omega) m j path hp
    obtain ⟨K0, e0⟩ := Ev.get (spec_l4Leaf_ev a b (by omega) (by omega))
    obtain ⟨K1, e1⟩ := Ev.get (spec_l4All_ev (leafB a b) hlb (by omega) m j path (by omega) (by omega) (by omega) hp hpl)
    generalize wayR (leafB a b) m j path = r at *
    obtain ⟨lb, ll⟩ := lastL_ways j1
    obtain ⟨K2, e2⟩ := Ev.get (spec_Digest_ev (lastL r.1) lb (by omega))
    refine ⟨K0 + K1 + K2 + 1, fun k hk => ?_⟩
    obtain ⟨k, rfl⟩ : ∃ m, k = m + 1 := ⟨k - 1, by omega⟩
    show spec_CheckPath.f (k + 1) a b _ _ path root = _
    unfold spec_CheckPath.f
    rw [l1In_eqP, Option.bind_some, if_pos (by simpa using h.1), w64 (by omega) (by omega), l1In_eqP, Option.bind_some, show decide ((0 : Int) ≤ (j : Int) ∧ (j : Int) ≤ (m : Int) - 1) = true by simp; omega]
    simp only [spec_CheckPath.j0]
    rw [if_neg (by simp), e0 _ (by omega), Option.bind_some, e1 _ (by omega), Option.bind_some]
    unfold strR
    simp only
    by_cases hrt : r.2 = true
    · have hl0 := j3 hrt
      have hml : (r.1.map strOfNums).length = r.1.length := List.length_map _
      have ew2 : wrap64 (((r.1.map strOfNums).length : Int) - 1) = (((r.1.map strOfNums).length - 1 : Nat) : Int) := by rw [w64 (by omega) (by omega)]; omega
      rw [if_pos hrt, if_pos hrt, ew2, if_pos (by omega), if_pos (by omega), rd_last' _ (by omega) (by omega), lastS_map hl0, if_pos (by rw [strOfNums_size]; omega), bytesOf_strOfNums lb, e2 _ (by omega), Option.bind_some]
    · rw [if_neg hrt, if_neg hrt]
  · rw [if_neg h]
    refine ⟨1, fun k hk => ?_⟩
    obtain ⟨k, rfl⟩ : ∃ m, k = m + 1 := ⟨k - 1, by omega⟩
    show spec_CheckPath.f (k + 1) a b _ _ path root = _
    unfold spec_CheckPath.f
    rw [l1In_eqP, Option.bind_some]
    by_cases h1 : 1 ≤ n ∧ n ≤ 60
    · rw [if_pos (by simpa using h1), w64 (by omega) (by omega), l1In_eqP, Option.bind_some, show decide ((0 : Int) ≤ i ∧ i ≤ n - 1) = false by simp; omega]
      simp only [spec_CheckPath.j0]
      rw [if_pos (by simp)]
    · rw [if_neg (by simpa using h1)]
      simp only [spec_CheckPath.j0]
      rw [if_pos trivial]
end Go.Proofs.Ytgaalomhipfgjaa.P
namespace Go.Proofs.Ytgaalomhipfgjaa.P
open Go.RowKit Go.Proofs.YtgaalomhipfgjaaW.PrintWords Go.Proofs.YtgaalomhipfgjaaW.PrintLast Go.Proofs.YtgaalomhipfgjaaW.PrintMore
end Go.Proofs.Ytgaalomhipfgjaa.P
namespace Go.Proofs.Ytgaalomhipfgjaa.P
open Go.RowKit Go.Proofs.YtgaalomhipfgjaaW.PrintWords Go.Proofs.YtgaalomhipfgjaaW.PrintLast Go.Proofs.YtgaalomhipfgjaaW.PrintMore
theorem bt_drop (s : ByteArray) (i : Nat) (h : i < s.size) : (bytesOf s).drop i = bt s (i : Int) :: (bytesOf s).drop (i + 1) := by
  have hl : i < (bytesOf s).length := by rw [bytesOf_length]; exact h
  rw [List.drop_eq_getElem_cons hl, ← rd_bytesOf, rd_nat _ _ hl]
theorem drop_end (s : ByteArray) (i : Nat) (h : s.size ≤ i) : (bytesOf s).drop i = [] := List.drop_eq_nil_of_le (by rw [bytesOf_length]; exact h)
end Go.Proofs.Ytgaalomhipfgjaa.P
namespace Go.Proofs.Ytgaalomhipfgjaa.P
open Go.RowKit Go.Proofs.YtgaalomhipfgjaaW.PrintWords Go.Proofs.YtgaalomhipfgjaaW.PrintLast Go.Proofs.YtgaalomhipfgjaaW.PrintMore
def okB (b : Int) : Bool := decide ((97 ≤ b ∧ b ≤ 122) ∨ (48 ≤ b ∧ b ≤ 57))
def wordM (l : List Int) : Bool := l.all okB
def keyOkM (s : ByteArray) : Bool := decide (1 ≤ s.size ∧ s.size ≤ 12) && wordM (bytesOf s)
def pairOkM (key val : ByteArray) : Bool := keyOkM key && decide (val.size ≤ 20)
theorem wordM_drop (s : ByteArray) (i : Nat) (h : i < s.size) : wordM ((bytesOf s).drop i) = (okB (bt s (i : Int)) && wordM ((bytesOf s).drop (i + 1))) := by
  rw [bt_drop s i h]
  rfl
theorem l1In_eq (a b c : Int) : spec_l1In.f a b c = some (decide (b ≤ a ∧ a ≤ c)) := by
  unfold spec_l1In.f
  by_cases h : a ≥ b
  · rw [if_pos h]
    congr 1
    exact decide_eq_decide.2 ⟨fun x => ⟨h, x⟩, fun x => x.2⟩
  · rw [if_neg h, decide_eq_false (by omega)]
theorem inRange_eq (a b c : Int) : impl_inRange.f a b c = some (decide (b ≤ a ∧ a ≤ c)) := by
  unfold impl_inRange.f
  by_cases h : a ≥ b
  · rw [if_pos h]
    congr 1
    exact decide_eq_decide.2 ⟨fun x => ⟨h, x⟩, fun x => x.2⟩
  · rw [if_neg h, decide_eq_false (by omega)]
theorem spec_KeyOk_loop (s : ByteArray) (hs : s.size ≤ 140737488355328) : ∀ d i : Nat, s.size - i = d → i ≤ s.size →
    Ev (fun k => spec_KeyOk.l0 k s (i : Int)) (decide (1 ≤ s.size ∧ s.size ≤ 12) && wordM ((bytesOf s).drop i)) := by
  intro d
  induction d with
  | zero =>
    intro i hd hi
    refine Ev.up (Ev.now _) (fun k _ => ?_)
    simp only [spec_KeyOk.l0]
    rw [if_neg (by omega), drop_end s i (by omega), l1In_eq, Option.bind_some]
    rw [show wordM [] = true from rfl, Bool.and_true]
    congr 1
    exact decide_eq_decide.2 (by omega)
  | succ d ih =>
    intro i hd hi
    have hb := bt_range s (i : Int)
    have hz := ih (i + 1) (by omega) (by omega)
    rw [wordM_drop s i (by omega)]
    by_cases c : okB (bt s (i : Int)) = true
    · rw [c, Bool.true_and]
      refine Ev.up hz (fun k hk => ?_)
      simp only [spec_KeyOk.l0]
      rw [if_pos (by omega), if_pos (by omega), w64 (x := bt s (i : Int)) (by omega) (by omega), l1In_eq, Option.bind_some, l1In_eq, Option.bind_some, w64 (by omega) (by omega)]
      unfold okB at c
      have c' := of_decide_eq_true c
      by_cases c1 : 97 ≤ bt s (i : Int) ∧ bt s (i : Int) ≤ 122
      · rw [if_pos (decide_eq_true c1)]; exact hk
      · rw [if_neg (by rw [decide_eq_false c1]; simp), if_pos (decide_eq_true (by omega))]; exact hk
    · have cf : okB (bt s (i : Int)) = false := by simpa using c
      rw [cf, Bool.false_and, Bool.and_false]
      refine Ev.up (Ev.now false) (fun k _ => ?_)
      simp only [spec_KeyOk.l0]
      unfold okB at c
      have c' : ¬ ((97 ≤ bt s (i : Int) ∧ bt s (i : Int) ≤ 122) ∨ (48 ≤ bt s (i : Int) ∧ bt s (i : Int) ≤ 57)) := fun h => c (decide_eq_true h)
      rw [if_pos (by omega), if_pos (by omega), w64 (x := bt s (i : Int)) (by omega) (by omega), l1In_eq, Option.bind_some, l1In_eq, Option.bind_some, decide_eq_false (by omega), if_neg (by simp), decide_eq_false (by omega), if_neg (by simp)]
theorem spec_KeyOk_ev (s : ByteArray) (hs : s.size ≤ 140737488355328) : Ev (fun k => spec_KeyOk.f k s) (keyOkM s) :=
  (spec_KeyOk_loop s hs _ 0 rfl (by omega)).congr (fun k => rfl)
theorem isKeyByte_eq (b : Int) : impl_isKeyByte.f b = some (okB b) := by
  unfold impl_isKeyByte.f okB
  by_cases h1 : b ≥ 97
  · rw [if_pos h1]
    by_cases h2 : b ≤ 122
    · rw [if_pos h2, decide_eq_true (by omega)]
    · rw [if_neg h2, if_pos (by omega), decide_eq_false (by omega), decide_eq_false (by omega)]
  · rw [if_neg h1]
    by_cases h2 : b ≥ 48
    · rw [if_pos h2]
      congr 1
      exact decide_eq_decide.2 (by omega)
    · rw [if_neg h2, decide_eq_false (by omega)]
theorem impl_isWord_loop (s : ByteArray) (hs : s.size ≤ 140737488355328) : ∀ d i : Nat, s.size - i = d → i ≤ s.size →
    Ev (fun k => impl_isWord.l0 k s (i : Int)) (wordM ((bytesOf s).drop i)) := by
  intro d
  induction d with
  | zero =>
    intro i hd hi
    refine Ev.up (Ev.now _) (fun k _ => ?_)
    simp only [impl_isWord.l0]
    rw [if_neg (by omega), drop_end s i (by omega)]
    rfl
  | succ d ih =>
    intro i hd hi
    have hz := ih (i + 1) (by omega) (by omega)
    rw [wordM_drop s i (by omega)]
    by_cases c : okB (bt s (i : Int)) = true
    · rw [c, Bool.true_and]
      refine Ev.up hz (fun k hk => ?_)
      simp only [impl_isWord.l0]
      rw [if_pos (by omega), if_pos (by omega), isKeyByte_eq, Option.bind_some, if_pos c, w64 (by omega) (by omega)]
      exact hk
    · have cf : okB (bt s (i : Int)) = false := by simpa using c
      rw [cf, Bool.false_and]
      refine Ev.up (Ev.now false) (fun k _ => ?_)
      simp only [impl_isWord.l0]
      rw [if_pos (by omega), if_pos (by omega), isKeyByte_eq, Option.bind_some, if_neg c]
theorem impl_KeyOk_ev (s : ByteArray) (hs : s.size ≤ 140737488355328) : Ev (fun k => impl_KeyOk.f k s) (keyOkM s) := by
  obtain ⟨K, hK⟩ := Ev.get (impl_isWord_loop s hs _ 0 rfl (by omega))
  refine ⟨K, fun k hk => ?_⟩
  show impl_KeyOk.f k s = _
  unfold impl_KeyOk.f impl_isWord.f keyOkM
  have h := hK k hk
  rw [inRange_eq, Option.bind_some]
  by_cases c : 1 ≤ s.size ∧ s.size ≤ 12
  · rw [if_pos (decide_eq_true (by omega)), show (0 : Int) = ((0 : Nat) : Int) from rfl, h, Option.bind_some, decide_eq_true c, Bool.true_and]
    rfl
  · rw [decide_eq_false (by omega), if_neg (by simp), decide_eq_false c, Bool.false_and]
theorem spec_PairOk_ev (a b : ByteArray) (hs : a.size ≤ 140737488355328) : Ev (fun k => spec_PairOk.f k a b) (pairOkM a b) := by
  obtain ⟨K, hK⟩ := Ev.get (spec_KeyOk_ev a hs)
  refine ⟨K, fun k hk => ?_⟩
  show spec_PairOk.f k a b = _
  unfold spec_PairOk.f pairOkM
  rw [hK k hk, Option.bind_some]
  by_cases c : keyOkM a = true
  · rw [if_pos c, c, Bool.true_and]
    congr 1
    exact decide_eq_decide.2 (by omega)
  · rw [if_neg c, Bool.eq_false_iff.2 c, Bool.false_and]
theorem impl_PairOk_ev (a b : ByteArray) (hs : a.size ≤ 140737488355328) : Ev (fun k => impl_PairOk.f k a b) (pairOkM a b) := by
  obtain ⟨K, hK⟩ := Ev.get (impl_KeyOk_ev a hs)
  refine ⟨K, fun k hk => ?_⟩
  show impl_PairOk.f k a b = _
  unfold impl_PairOk.f pairOkM
  rw [hK k hk, Option.bind_some]
  by_cases c : keyOkM a = true
  · rw [if_pos c, c, Bool.true_and]
    congr 1
    exact decide_eq_decide.2 (by omega)
  · rw [if_neg c, Bool.eq_false_iff.2 c, Bool.false_and]
end Go.Proofs.Ytgaalomhipfgjaa.P
namespace Go.Proofs.Ytgaalomhipfgjaa.P
open Go.RowKit Go.Proofs.YtgaalomhipfgjaaW.PrintWords Go.Proofs.YtgaalomhipfgjaaW.PrintLast Go.Proofs.YtgaalomhipfgjaaW.PrintMore
theorem filt_step {α : Type} (p : α → Bool) (l : List α) (i : Nat) (h : i < l.length) : (l.take (i + 1)).filter p = if p l[i] then (l.take i).filter p ++ [l[i]] else (l.take i).filter p := by
  rw [← List.take_append_getElem h, List.filter_append]
  by_cases c : p l[i] = true
  · simp [c]
  · simp [c]
theorem filt_le {α : Type} (p : α → Bool) (l : List α) (i : Nat) : ((l.take i).filter p).length ≤ l.length :=
  Nat.le_trans (List.length_filter_le _ _) (by rw [List.length_take]; omega)
def btwB (a b : ByteArray) (p : S26) : Bool := !(Op.bytesLess p.f0.toList a.toList) && (decide (b.toList = []) || Op.bytesLess p.f0.toList b.toList)
theorem spec_l3In_eq (p : S26) (a b : ByteArray) : spec_l3In.f p.f0 a b = some (btwB a b p) := by
  unfold spec_l3In.f btwB
  by_cases c : Op.bytesLess p.f0.toList a.toList = true
  · simp [c]
  · by_cases c2 : b.toList = []
    · simp [c, c2]
    · simp [c, c2]
theorem impl_isBetween_eq (p : S26) (a b : ByteArray) : impl_isBetween.f p.f0 a b = some (btwB a b p) := by
  unfold impl_isBetween.f btwB
  by_cases c : Op.bytesLess p.f0.toList a.toList = true
  · simp [c]
  · by_cases c2 : b.toList = []
    · simp [c, c2]
    · simp [c, c2]
theorem impl_Between_loop (l : List S26) (hn : l.length ≤ 1000000000000) (a b : ByteArray) : ∀ d i : Nat, l.length - i = d → i ≤ l.length →
    Ev (fun k => impl_Between.l0 k a b ((l.take i).filter (btwB a b)) l (l.length : Int) (i : Int)) (l.filter (btwB a b)) := by
  intro d
  induction d with
  | zero =>
    intro i hd hi
    obtain rfl : i = l.length := by omega
    refine Ev.up (Ev.now (l.filter (btwB a b))) (fun k _ => ?_)
    simp only [impl_Between.l0]
    rw [if_neg (by omega), List.take_length]
  | succ d ih =>
    intro i hd hi
    have hil : i < l.length := by omega
    refine Ev.up (ih (i + 1) (by omega) (by omega)) (fun k hx => ?_)
    rw [filt_step (btwB a b) l i hil] at hx
    have hle := filt_le (btwB a b) l i
    simp only [impl_Between.l0]
    rw [if_pos (by omega), if_pos (by omega), if_pos (by omega), rd_26_nat l i hil, impl_isBetween_eq, Option.bind_some]
    by_cases c : btwB a b l[i] = true
    · rw [if_pos c, if_pos (by omega), w64 (by omega) (by omega)]
      rw [if_pos c] at hx
      exact hx
    · rw [if_neg c, w64 (by omega) (by omega)]
      rw [if_neg c] at hx
      exact hx
theorem impl_Between_ev (l : List S26) (hn : l.length ≤ 1000000000000) (a b : ByteArray) : Ev (fun k => impl_Between.f k l a b) (l.filter (btwB a b)) :=
  impl_Between_loop l hn a b _ 0 rfl (by omega)
end Go.Proofs.Ytgaalomhipfgjaa.P
namespace Go.Proofs.Ytgaalomhipfgjaa.P
open Go.RowKit Go.Proofs.YtgaalomhipfgjaaW.PrintWords Go.Proofs.YtgaalomhipfgjaaW.PrintLast Go.Proofs.YtgaalomhipfgjaaW.PrintMore
abbrev itm (l : List S63) (i : Int) : S63 := rd_T63 l i
def itOk (root : ByteArray) (N F : Int) (l : List S63) (i : Nat) : Bool :=
  if pairOkM (itm l i).f0.f0 (itm l i).f0.f1 = true then
    if (0 < i → Op.bytesLess (itm l ((i : Int) - 1)).f0.f0.toList (itm l i).f0.f0.toList = true) then checkM (leafB (itm l i).f0.f0 (itm l i).f0.f1) (F + i) N (itm l i).f1 root else false
  else false
def allOk (root : ByteArray) (N F : Int) (l : List S63) : Nat → Nat → Bool
  | 0, _ => true
  | d + 1, i => if itOk root N F l i = true then allOk root N F l d (i + 1) else false
def reachB (lo hi : ByteArray) (N F : Int) (l : List S63) : Bool :=
  if F = 0 ∨ Op.bytesLess (itm l 0).f0.f0.toList lo.toList = true then
    (if F + l.length = N then true else if hi.toList = ([] : List UInt8) then false else !(Op.bytesLess (itm l ((l.length : Int) - 1)).f0.f0.toList hi.toList))
  else false
def pof (x : S63) : S26 := ⟨x.f0.f0, x.f0.f1⟩
def chkB (root lo hi : ByteArray) (N F : Int) (l : List S63) : List S26 × Bool :=
  if N = 0 then ([], if (l.length : Int) = 0 ∧ F = 0 then root.toList == (rootM []).toList else false)
  else if (1 ≤ N ∧ N ≤ 60) ∧ (1 ≤ (l.length : Int) ∧ (l.length : Int) ≤ N) ∧ (0 ≤ F ∧ F ≤ N - 1) ∧ allOk root N F l l.length 0 = true ∧ reachB lo hi N F l = true then ((l.map pof).filter (btwB lo hi), true)
  else ([], false)
def FewT (l : List S63) : Prop := l.length ≤ 10000000 ∧ ∀ x ∈ l, (x.f0.f0.size ≤ 10000000 ∧ x.f0.f1.size ≤ 10000000) ∧ x.f1.length ≤ 10000000 ∧ FewS x.f1
theorem itm_few {l : List S63} (h : FewT l) {i : Nat} (hi : i < l.length) : ((itm l i).f0.f0.size ≤ 10000000 ∧ (itm l i).f0.f1.size ≤ 10000000) ∧ (itm l i).f1.length ≤ 10000000 ∧ FewS (itm l i).f1 := by
  unfold itm
  rw [rd_63_nat l i hi]
  exact h.2 _ (List.getElem_mem hi)
theorem allOk_at {root : ByteArray} {N F : Int} {l : List S63} : ∀ (d i : Nat), allOk root N F l d i = true → ∀ j, i ≤ j → j < i + d → itOk root N F l j = true := by
  intro d
  induction d with
  | zero => intro i _ j h1 h2; omega
  | succ d ih =>
    intro i h j h1 h2
    rw [allOk] at h
    split at h
    · rename_i c
      rcases Nat.eq_or_lt_of_le h1 with e | e
      · rw [← e]; exact c
      · exact ih (i + 1) h j e (by omega)
    · cases h
theorem allOk_room {root : ByteArray} {N F : Int} {l : List S63} (hl : 0 < l.length) (h : allOk root N F l l.length 0 = true) : F + l.length ≤ N := by
  have h1 := allOk_at _ _ h (l.length - 1) (by omega) (by omega)
  unfold itOk at h1
  split at h1
  · split at h1
    · unfold checkM at h1
      split at h1
      · rename_i c; omega
      · cases h1
    · cases h1
  · cases h1
theorem impl_itemsOk_loop (root : ByteArray) (N F : Int) (hN : 1 ≤ N ∧ N ≤ 60) (hF : 0 ≤ F ∧ F ≤ 60) (l : List S63) (hf : FewT l) : ∀ (d i : Nat), l.length - i = d → i ≤ l.length →
    Ev (fun k => impl_itemsOk.l0 k root l (l.length : Int) (i : Int) N F l) (allOk root N F l d i) := by
  intro d
  have hn := hf.1
  induction d with
  | zero =>
    intro i hd hi
    refine Ev.up (Ev.now _) (fun k _ => ?_)
    simp only [impl_itemsOk.l0]
    rw [if_neg (by omega)]
    rfl
  | succ d ih =>
    intro i hd hi
    have hil : i < l.length := by omega
    obtain ⟨⟨ha, hb⟩, hpl, hps⟩ := itm_few hf hil
    obtain ⟨K1, e1⟩ := Ev.get (impl_PairOk_ev (itm l i).f0.f0 (itm l i).f0.f1 (by omega))
    obtain ⟨K2, e2⟩ := Ev.get (impl_CheckPath_ev (itm l i).f0.f0 (itm l i).f0.f1 ha hb (F + i) N (by omega) (itm l i).f1 hps (by omega) root)
    obtain ⟨K3, e3⟩ := Ev.get (ih (i + 1) (by omega) (by omega))
    refine ⟨K1 + K2 + K3 + 1, fun k hk => ?_⟩
    obtain ⟨k, rfl⟩ : ∃ j, k = j + 1 := ⟨k - 1, by omega⟩
    have f1 : impl_PairOk.f k (rd_T63 l (i : Int)).f0.f0 (rd_T63 l (i : Int)).f0.f1 = _ := e1 k (by omega)
    have f2 : impl_CheckPath.f k (rd_T63 l (i : Int)).f0.f0 (rd_T63 l (i : Int)).f0.f1 (F + i) N (rd_T63 l (i : Int)).f1 root = _ := e2 k (by omega)
    have f3 : impl_itemsOk.l0 k root l (l.length : Int) ((i + 1 : Nat) : Int) N F l = _ := e3 k (by omega)
    show impl_itemsOk.l0 (k + 1) _ _ _ _ _ _ _ = _
    simp only [impl_itemsOk.l0]
    rw [if_pos (by omega), if_pos (by omega), if_pos (by omega), f1, Option.bind_some, w64 (x := F + (i : Int)) (by omega) (by omega), w64 (x := (i : Int) - 1) (by omega) (by omega), w64 (x := (i : Int) + 1) (by omega) (by omega), f2, show (i : Int) + 1 = ((i + 1 : Nat) : Int) by omega, f3, Option.bind_some, allOk]
    unfold itOk
    by_cases c1 : pairOkM (itm l i).f0.f0 (itm l i).f0.f1 = true
    · rw [if_pos c1, if_pos c1]
      by_cases c2 : 0 < i
      · rw [if_pos (by omega), if_pos (by omega), if_pos (by omega)]
        by_cases c3 : Op.bytesLess (itm l ((i : Int) - 1)).f0.f0.toList (itm l i).f0.f0.toList = true
        · rw [if_pos c3, if_pos (fun _ => c3)]
          split <;> rfl
        · rw [if_neg c3, show (if (0 < i → Op.bytesLess (itm l ((i : Int) - 1)).f0.f0.toList (itm l i).f0.f0.toList = true) then checkM (leafB (itm l i).f0.f0 (itm l i).f0.f1) (F + i) N (itm l i).f1 root else false) = false from if_neg (fun h => c3 (h c2)), if_neg (by simp)]
      · rw [if_neg (by omega), if_pos (fun h => absurd h c2)]
        split <;> rfl
    · rw [if_neg c1, if_neg c1, if_neg (by simp)]
theorem impl_reaches_eq (lo hi : ByteArray) (N F : Int) (hN : 1 ≤ N ∧ N ≤ 60) (hF : 0 ≤ F ∧ F ≤ 60) (l : List S63) (hl : 0 < l.length) (hl2 : l.length ≤ 10000000) : impl_reaches.f lo hi N F l = some (reachB lo hi N F l) := by
  unfold impl_reaches.f reachB
  rw [w64 (x := (l.length : Int) - 1) (by omega) (by omega), w64 (x := N - 1) (by omega) (by omega), w64 (x := F + ((l.length : Int) - 1)) (by omega) (by omega)]
  have hx : (if F + ((l.length : Int) - 1) = N - 1 then some true else if hi.toList = ([] : List UInt8) then some false else if 0 ≤ (l.length : Int) - 1 then if (l.length : Int) - 1 < (l.length : Int) then some (!(Op.bytesLess (rd_T63 l ((l.length : Int) - 1)).f0.f0.toList hi.toList)) else none else none) =
      some (if F + l.length = N then true else if hi.toList = ([] : List UInt8) then false else !(Op.bytesLess (itm l ((l.length : Int) - 1)).f0.f0.toList hi.toList)) := by
    by_cases c1 : F + ((l.length : Int) - 1) = N - 1
    · rw [if_pos c1, if_pos (show F + (l.length : Int) = N by omega)]
    · rw [if_neg c1, if_neg (show ¬ F + (l.length : Int) = N by omega)]
      by_cases c2 : hi.toList = ([] : List UInt8)
      · rw [if_pos c2, if_pos c2]
      · rw [if_neg c2, if_neg c2, if_pos (by omega), if_pos (by omega)]
  by_cases c : F = 0
  · rw [if_pos c, if_pos (show F = 0 ∨ Op.bytesLess (itm l 0).f0.f0.toList lo.toList = true from .inl c)]
    exact hx
  · rw [if_neg c, if_pos (by omega)]
    by_cases c3 : Op.bytesLess (itm l 0).f0.f0.toList lo.toList = true
    · rw [if_pos c3, if_pos (show F = 0 ∨ Op.bytesLess (itm l 0).f0.f0.toList lo.toList = true from .inr c3)]
      exact hx
    · rw [if_neg c3, if_neg (show ¬ (F = 0 ∨ Op.bytesLess (itm l 0).f0.f0.toList lo.toList = true) from fun h => h.elim c c3)]
theorem impl_Check_loop (lo hi : ByteArray) (l : List S63) (hl : l.length ≤ 10000000) : ∀ (d i : Nat), l.length - i = d → i ≤ l.length →
    Ev (fun k => impl_CheckBetween.l0 k lo hi ((l.take i).map pof) l (l.length : Int) (i : Int)) ((l.map pof).filter (btwB lo hi), true) := by
  intro d
  induction d with
  | zero =>
    intro i hd hi'
    obtain rfl : i = l.length := by omega
    obtain ⟨K, e⟩ := Ev.get (impl_Between_ev (l.map pof) (by rw [List.length_map]; omega) lo hi)
    refine ⟨K + 1, fun k hk => ?_⟩
    obtain ⟨k, rfl⟩ : ∃ j, k = j + 1 := ⟨k - 1, by omega⟩
    show impl_CheckBetween.l0 (k + 1) _ _ _ _ _ _ = _
    simp only [impl_CheckBetween.l0]
    rw [if_neg (by omega), List.take_length, e k (by omega), Option.bind_some]
  | succ d ih =>
    intro i hd hi'
    have hil : i < l.length := by omega
    refine Ev.up (ih (i + 1) (by omega) (by omega)) (fun k hk => ?_)
    simp only [impl_CheckBetween.l0]
    rw [if_pos (by omega), if_pos (by omega), if_pos (by omega), if_pos (by rw [List.length_map, List.length_take]; omega), rd_63_nat l i hil, w64 (by omega) (by omega)]
    rw [List.take_succ_eq_append_getElem hil, List.map_append] at hk
    exact hk
theorem impl_CheckBetween_ev (root lo hi : ByteArray) (N F : Int) (hNr : -9223372036854775808 ≤ N ∧ N ≤ 9223372036854775807) (l : List S63) (hf : FewT l) : Ev (fun k => impl_CheckBetween.f k root lo hi N F l) (chkB root lo hi N F l) := by
  have hn := hf.1
  unfold chkB
  by_cases c0 : N = 0
  · rw [if_pos c0]
    obtain ⟨K, e⟩ := Ev.get (impl_rootOf_ev [] (by simp) (fun _ h => by cases h))
    refine ⟨K, fun k hk => ?_⟩
    show impl_CheckBetween.f k root lo hi N F l = _
    unfold impl_CheckBetween.f
    rw [if_pos c0]
    by_cases c1 : (l.length : Int) = 0
    · rw [if_pos c1]
      by_cases c2 : F = 0
      · rw [if_pos c2, if_pos ⟨c1, c2⟩, e k hk, Option.bind_some]
      · rw [if_neg c2, if_neg (fun h => c2 h.2)]
    · rw [if_neg c1, if_neg (fun h => c1 h.1)]
  · rw [if_neg c0]
    have hbad : ∀ k, impl_CheckBetween.j0 (k + 1) lo hi true N F l = some ([], false) := fun k => by simp only [impl_CheckBetween.j0]; rw [if_pos trivial]
    by_cases cN : 1 ≤ N ∧ N ≤ 60
    · by_cases cL : 1 ≤ (l.length : Int) ∧ (l.length : Int) ≤ N
      · by_cases cF : 0 ≤ F ∧ F ≤ N - 1
        · obtain ⟨K1, e1⟩ := Ev.get (impl_itemsOk_loop root N F cN ⟨cF.1, by omega⟩ l hf _ 0 rfl (by omega))
          obtain ⟨K2, e2⟩ := Ev.get (impl_Check_loop lo hi l hn _ 0 rfl (by omega))
          refine ⟨K1 + K2 + 1, fun k hk => ?_⟩
          obtain ⟨k, rfl⟩ : ∃ j, k = j + 1 := ⟨k - 1, by omega⟩
          have f1 : impl_itemsOk.f (k + 1) root N F l = some (allOk root N F l l.length 0) := e1 (k + 1) (by omega)
          have f2 : impl_CheckBetween.l0 k lo hi ([] : List S26) l (l.length : Int) 0 = _ := e2 k (by omega)
          show impl_CheckBetween.f (k + 1) root lo hi N F l = _
          unfold impl_CheckBetween.f
          rw [if_neg c0, inRange_eq, Option.bind_some, if_pos (decide_eq_true cN), inRange_eq, Option.bind_some, if_pos (decide_eq_true cL), inRange_eq, w64 (x := N - 1) (by omega) (by omega), Option.bind_some, if_pos (decide_eq_true cF), f1, Option.bind_some]
          by_cases c3 : allOk root N F l l.length 0 = true
          · rw [if_pos c3, impl_reaches_eq lo hi N F cN ⟨cF.1, by omega⟩ l (by omega) hn, Option.bind_some]
            by_cases c4 : reachB lo hi N F l = true
            · rw [if_pos ⟨cN, cL, cF, c3, c4⟩, c4]
              simp only [impl_CheckBetween.j0]
              rw [if_neg (by simp)]
              exact f2
            · rw [if_neg (fun h => c4 h.2.2.2.2), Bool.eq_false_iff.mpr c4]
              exact hbad k
          · rw [if_neg c3, if_neg (fun h => c3 h.2.2.2.1)]
            exact hbad k
        · refine ⟨1, fun k hk => ?_⟩
          obtain ⟨k, rfl⟩ : ∃ j, k = j + 1 := ⟨k - 1, by omega⟩
          show impl_CheckBetween.f (k + 1) root lo hi N F l = _
          unfold impl_CheckBetween.f
          rw [if_neg c0, inRange_eq, Option.bind_some, if_pos (decide_eq_true cN), inRange_eq, Option.bind_some, if_pos (decide_eq_true cL), inRange_eq, w64 (x := N - 1) (by omega) (by omega), Option.bind_some, if_neg (by simpa using cF), if_neg (fun h => cF h.2.2.1)]
          exact hbad k
      · refine ⟨1, fun k hk => ?_⟩
        obtain ⟨k, rfl⟩ : ∃ j, k = j + 1 := ⟨k - 1, by omega⟩
        show impl_CheckBetween.f (k + 1) root lo hi N F l = _
        unfold impl_CheckBetween.f
        rw [if_neg c0, inRange_eq, Option.bind_some, if_pos (decide_eq_true cN), inRange_eq, Option.bind_some, if_neg (by simpa using cL), if_neg (fun h => cL h.2.1)]
        exact hbad k
    · refine ⟨1, fun k hk => ?_⟩
      obtain ⟨k, rfl⟩ : ∃ j, k = j + 1 := ⟨k - 1, by omega⟩
      show impl_CheckBetween.f (k + 1) root lo hi N F l = _
      unfold impl_CheckBetween.f
      rw [if_neg c0, inRange_eq, Option.bind_some, if_neg (by simpa using cN), if_neg (fun h => cN h.1)]
      exact hbad k
theorem spec_l5Item_ev (root : ByteArray) (N F : Int) (hN : 1 ≤ N ∧ N ≤ 60) (hF : 0 ≤ F ∧ F ≤ 60) (l : List S63) (hf : FewT l) (i : Nat) (hil : i < l.length) : Ev (fun k => spec_l5Item.f k root N F l (i : Int)) (itOk root N F l i) := by
  have hn := hf.1
  obtain ⟨⟨ha, hb⟩, hpl, hps⟩ := itm_few hf hil
  obtain ⟨K1, e1⟩ := Ev.get (spec_PairOk_ev (itm l i).f0.f0 (itm l i).f0.f1 (by omega))
  obtain ⟨K2, e2⟩ := Ev.get (spec_CheckPath_ev (itm l i).f0.f0 (itm l i).f0.f1 ha hb (F + i) N (by omega) (itm l i).f1 hps (by omega) root)
  refine ⟨K1 + K2, fun k hk => ?_⟩
  have f1 : spec_PairOk.f k (rd_T63 l (i : Int)).f0.f0 (rd_T63 l (i : Int)).f0.f1 = _ := e1 k (by omega)
  have f2 : spec_CheckPath.f k (rd_T63 l (i : Int)).f0.f0 (rd_T63 l (i : Int)).f0.f1 (F + i) N (rd_T63 l (i : Int)).f1 root = _ := e2 k (by omega)
  show spec_l5Item.f k root N F l (i : Int) = _
  unfold spec_l5Item.f itOk
  rw [if_pos (by omega), if_pos (by omega), f1, Option.bind_some, w64 (x := F + (i : Int)) (by omega) (by omega), w64 (x := (i : Int) - 1) (by omega) (by omega), f2, Option.bind_some]
  by_cases c1 : pairOkM (itm l i).f0.f0 (itm l i).f0.f1 = true
  · rw [if_pos c1, if_pos c1]
    by_cases c2 : checkM (leafB (itm l i).f0.f0 (itm l i).f0.f1) (F + i) N (itm l i).f1 root = true
    · rw [if_pos c2]
      by_cases c3 : 0 < i
      · rw [if_neg (by omega), if_pos (by omega), if_pos (by omega)]
        by_cases c4 : Op.bytesLess (itm l ((i : Int) - 1)).f0.f0.toList (itm l i).f0.f0.toList = true
        · rw [if_pos (fun _ => c4), c2]
          exact congrArg some c4
        · rw [if_neg (fun h => c4 (h c3))]
          exact congrArg some (Bool.eq_false_iff.mpr c4)
      · rw [if_pos (by omega), if_pos (fun h => absurd h c3), c2]
    · rw [if_neg c2]
      split
      · exact congrArg some (Bool.eq_false_iff.mpr c2).symm
      · rfl
  · rw [if_neg c1, if_neg c1]
def endB (lo hi : ByteArray) (N F : Int) (l : List S63) (out : List S26) : List S26 × Bool := if reachB lo hi N F l = true then (out, true) else ([], false)
theorem spec_Check_loop (root lo hi : ByteArray) (N F : Int) (hN : 1 ≤ N ∧ N ≤ 60) (hF : 0 ≤ F ∧ F ≤ N - 1) (l : List S63) (hf : FewT l) (hl : 0 < l.length) (hroom : allOk root N F l l.length 0 = true → F + l.length ≤ N) : ∀ (d i : Nat), l.length - i = d → i ≤ l.length → (allOk root N F l d i = true → allOk root N F l l.length 0 = true) →
    Ev (fun k => spec_CheckBetween.l0 k root lo hi [] (l.length : Int) (((l.take i).map pof).filter (btwB lo hi)) (i : Int) N F l) (if allOk root N F l d i = true then endB lo hi N F l ((l.map pof).filter (btwB lo hi)) else ([], false)) := by
  intro d
  have hn := hf.1
  induction d with
  | zero =>
    intro i hd hi' hall
    obtain rfl : i = l.length := by omega
    have hr := hroom (hall rfl)
    refine Ev.up (Ev.now _) (fun k _ => ?_)
    simp only [spec_CheckBetween.l0]
    rw [if_neg (by omega), if_pos (by omega), w64 (x := (l.length : Int) - 1) (by omega) (by omega), w64 (x := F + (l.length : Int)) (by omega) (by omega), if_pos (by omega), if_pos (by omega), List.take_length, show allOk root N F l 0 l.length = true from rfl, if_pos rfl]
    generalize (l.map pof).filter (btwB lo hi) = out
    unfold endB reachB
    have hx : (if hi.toList = ([] : List UInt8) then (if F + (l.length : Int) < N then some (([] : List S26), false) else some (out, true)) else (if Op.bytesLess (rd_T63 l ((l.length : Int) - 1)).f0.f0.toList hi.toList = true then (if F + (l.length : Int) < N then some (([] : List S26), false) else some (out, true)) else some (out, true))) =
        some (if (if F + l.length = N then true else if hi.toList = ([] : List UInt8) then false else !(Op.bytesLess (itm l ((l.length : Int) - 1)).f0.f0.toList hi.toList)) = true then (out, true) else ([], false)) := by
      by_cases c2 : hi.toList = ([] : List UInt8)
      · rw [if_pos c2, if_pos c2]
        by_cases c1 : F + (l.length : Int) = N
        · rw [if_neg (by omega), if_pos c1, if_pos rfl]
        · rw [if_pos (by omega), if_neg c1, if_neg (by simp)]
      · rw [if_neg c2, if_neg c2]
        by_cases c3 : Op.bytesLess (itm l ((l.length : Int) - 1)).f0.f0.toList hi.toList = true
        · rw [if_pos c3, c3]
          by_cases c1 : F + (l.length : Int) = N
          · rw [if_neg (by omega), if_pos c1, if_pos rfl]
          · rw [if_pos (by omega), if_neg c1, if_neg (by simp)]
        · rw [if_neg c3, Bool.eq_false_iff.mpr c3]
          by_cases c1 : F + (l.length : Int) = N
          · rw [if_pos c1, if_pos rfl]
          · rw [if_neg c1, if_pos (by simp)]
    by_cases c : Op.bytesLess (itm l 0).f0.f0.toList lo.toList = true
    · rw [if_pos c, if_pos (show F = 0 ∨ Op.bytesLess (itm l 0).f0.f0.toList lo.toList = true from .inr c)]
      exact hx
    · rw [if_neg c]
      by_cases c4 : F = 0
      · rw [if_neg (show ¬ F > 0 by omega), if_pos (show F = 0 ∨ Op.bytesLess (itm l 0).f0.f0.toList lo.toList = true from .inl c4)]
        exact hx
      · rw [if_pos (show F > 0 by omega), if_neg (show ¬ (F = 0 ∨ Op.bytesLess (itm l 0).f0.f0.toList lo.toList = true) from fun h => h.elim c4 c), if_neg (by simp)]
  | succ d ih =>
    intro i hd hi' hall
    have hil : i < l.length := by omega
    obtain ⟨K1, e1⟩ := Ev.get (spec_l5Item_ev root N F hN ⟨hF.1, by omega⟩ l hf i hil)
    rw [allOk]
    by_cases c1 : itOk root N F l i = true
    · rw [if_pos c1]
      obtain ⟨K2, e2⟩ := Ev.get (ih (i + 1) (by omega) (by omega) (fun h => hall (by rw [allOk, if_pos c1]; exact h)))
      refine ⟨K1 + K2 + 1, fun k hk => ?_⟩
      obtain ⟨k, rfl⟩ : ∃ j, k = j + 1 := ⟨k - 1, by omega⟩
      have hx := e2 k (by omega)
      rw [List.take_succ_eq_append_getElem hil, List.map_append, List.filter_append] at hx
      have hle : (((l.take i).map pof).filter (btwB lo hi)).length ≤ i := Nat.le_trans (List.length_filter_le _ _) (by rw [List.length_map, List.length_take]; omega)
      have h3 : spec_l3In.f (rd_T63 l (i : Int)).f0.f0 lo hi = some (btwB lo hi (pof l[i])) := by
        rw [rd_63_nat l i hil]
        exact spec_l3In_eq (pof l[i]) lo hi
      show spec_CheckBetween.l0 (k + 1) _ _ _ _ _ _ _ _ _ _ = _
      simp only [spec_CheckBetween.l0]
      rw [if_pos (by omega), e1 k (by omega), Option.bind_some, if_pos c1, if_pos (by omega), if_pos (by omega), h3, Option.bind_some, w64 (x := (i : Int) + 1) (by omega) (by omega), show (i : Int) + 1 = ((i + 1 : Nat) : Int) by omega]
      by_cases c2 : btwB lo hi (pof l[i]) = true
      · rw [if_pos c2, if_pos (by omega), rd_63_nat l i hil]
        rw [show List.filter (btwB lo hi) (List.map pof [l[i]]) = [pof l[i]] by simp [c2]] at hx
        exact hx
      · rw [if_neg c2]
        rw [show List.filter (btwB lo hi) (List.map pof [l[i]]) = [] by simp [c2], List.append_nil] at hx
        exact hx
    · rw [if_neg c1, if_neg (by simp)]
      refine ⟨K1 + 1, fun k hk => ?_⟩
      obtain ⟨k, rfl⟩ : ∃ j, k = j + 1 := ⟨k - 1, by omega⟩
      show spec_CheckBetween.l0 (k + 1) _ _ _ _ _ _ _ _ _ _ = _
      simp only [spec_CheckBetween.l0]
      rw [if_pos (by omega), e1 k (by omega), Option.bind_some, if_neg c1]
theorem spec_CheckBetween_ev (root lo hi : ByteArray) (N F : Int) (hNr : -9223372036854775808 ≤ N ∧ N ≤ 9223372036854775807) (l : List S63) (hf : FewT l) : Ev (fun k => spec_CheckBetween.f k root lo hi N F l) (chkB root lo hi N F l) := by
  have hn := hf.1
  unfold chkB
  by_cases c0 : N = 0
  · rw [if_pos c0]
    obtain ⟨K, e⟩ := Ev.get (spec_l4Root_ev [] (by simp) (fun _ h => by cases h))
    refine ⟨K, fun k hk => ?_⟩
    show spec_CheckBetween.f k root lo hi N F l = _
    unfold spec_CheckBetween.f
    rw [Option.bind_some, if_pos c0]
    by_cases c1 : (l.length : Int) = 0
    · rw [if_pos c1]
      by_cases c2 : F = 0
      · rw [if_pos c2, if_pos ⟨c1, c2⟩, e k hk, Option.bind_some]
      · rw [if_neg c2, if_neg (fun h => c2 h.2)]
    · rw [if_neg c1, if_neg (fun h => c1 h.1)]
  · rw [if_neg c0]
    have hbad : ∀ k, spec_CheckBetween.j0 (k + 1) root lo hi [] (l.length : Int) true N F l = some ([], false) := fun k => by simp only [spec_CheckBetween.j0]; rw [if_pos trivial]
    by_cases cN : 1 ≤ N ∧ N ≤ 60
    · by_cases cL : (l.length : Int) = 0
      · refine ⟨1, fun k hk => ?_⟩
        obtain ⟨k, rfl⟩ : ∃ j, k = j + 1 := ⟨k - 1, by omega⟩
        show spec_CheckBetween.f (k + 1) root lo hi N F l = _
        unfold spec_CheckBetween.f
        rw [Option.bind_some, if_neg c0, l1In_eq, Option.bind_some, if_pos (decide_eq_true cN), if_pos cL, if_neg (fun h => by have := h.2.1.1; omega)]
        exact hbad k
      · by_cases cF : 0 ≤ F ∧ F ≤ N - 1
        · obtain ⟨K2, e2⟩ := Ev.get (spec_Check_loop root lo hi N F cN cF l hf (by omega) (allOk_room (by omega)) _ 0 rfl (by omega) (fun h => h))
          refine ⟨K2 + 1, fun k hk => ?_⟩
          obtain ⟨k, rfl⟩ : ∃ j, k = j + 1 := ⟨k - 1, by omega⟩
          have f2 : spec_CheckBetween.l0 k root lo hi [] (l.length : Int) ([] : List S26) 0 N F l = _ := e2 k (by omega)
          show spec_CheckBetween.f (k + 1) root lo hi N F l = _
          unfold spec_CheckBetween.f
          rw [Option.bind_some, if_neg c0, l1In_eq, Option.bind_some, if_pos (decide_eq_true cN), if_neg cL, l1In_eq, w64 (x := N - 1) (by omega) (by omega), Option.bind_some, decide_eq_true cF]
          simp only [spec_CheckBetween.j0]
          rw [if_neg (by simp)]
          refine f2.trans (congrArg some ?_)
          by_cases c3 : allOk root N F l l.length 0 = true
          · have hr := allOk_room (by omega) c3
            unfold endB
            rw [show l.length - 0 = l.length from rfl, if_pos c3]
            by_cases c4 : reachB lo hi N F l = true
            · rw [if_pos c4, if_pos ⟨cN, ⟨by omega, by omega⟩, cF, c3, c4⟩]
            · rw [if_neg c4, if_neg (fun h => c4 h.2.2.2.2)]
          · rw [show l.length - 0 = l.length from rfl, if_neg c3, if_neg (fun h => c3 h.2.2.2.1)]
        · refine ⟨1, fun k hk => ?_⟩
          obtain ⟨k, rfl⟩ : ∃ j, k = j + 1 := ⟨k - 1, by omega⟩
          show spec_CheckBetween.f (k + 1) root lo hi N F l = _
          unfold spec_CheckBetween.f
          rw [Option.bind_some, if_neg c0, l1In_eq, Option.bind_some, if_pos (decide_eq_true cN), if_neg cL, l1In_eq, w64 (x := N - 1) (by omega) (by omega), Option.bind_some, decide_eq_false cF, if_neg (fun h => cF h.2.2.1)]
          exact hbad k
    · refine ⟨1, fun k hk => ?_⟩
      obtain ⟨k, rfl⟩ : ∃ j, k = j + 1 := ⟨k - 1, by omega⟩
      show spec_CheckBetween.f (k + 1) root lo hi N F l = _
      unfold spec_CheckBetween.f
      rw [Option.bind_some, if_neg c0, l1In_eq, Option.bind_some, if_neg (by simpa using cN), if_neg (fun h => cN h.1)]
      exact hbad k
end Go.Proofs.Ytgaalomhipfgjaa.P
namespace Go.Proofs.Ytgaalomhipfgjaa.P
open Go.RowKit Go.Proofs.YtgaalomhipfgjaaW.PrintWords Go.Proofs.YtgaalomhipfgjaaW.PrintLast Go.Proofs.YtgaalomhipfgjaaW.PrintMore
def FewI (l : List S63) : Prop := l.length ≤ 10000000 ∧ ∀ x ∈ l, x.f1.length ≤ 1100000
theorem eqItemS_loop (l : List S63) (hn : l.length ≤ 10000000) (hp : ∀ x ∈ l, x.f1.length ≤ 1100000) : ∀ d i : Nat, l.length - i = d → i ≤ l.length → Ev (fun k => laws_eqItemS.l0 k l l (i : Int)) true := by
  intro d
  induction d with
  | zero =>
    intro i hd hi
    refine Ev.up (Ev.now _) (fun k _ => ?_)
    simp only [laws_eqItemS.l0]
    rw [if_neg (by omega)]
  | succ d ih =>
    intro i hd hi
    have hil : i < l.length := by omega
    have hx : rd_T63 l (i : Int) ∈ l := by
      unfold rd_T63
      rw [List.getD_eq_getElem?_getD, Int.toNat_natCast, List.getElem?_eq_getElem hil]
      exact List.getElem_mem hil
    have hz := hp _ hx
    obtain ⟨K1, e1⟩ := Ev.get (eqStringS_ev (rd_T63 l (i : Int)).f1 (by omega))
    obtain ⟨K2, e2⟩ := Ev.get (ih (i + 1) (by omega) (by omega))
    refine ⟨K1 + K2 + 1, fun k hk => ?_⟩
    obtain ⟨k, rfl⟩ : ∃ j, k = j + 1 := ⟨k - 1, by omega⟩
    have hy := e2 k (by omega)
    have hi2 : laws_eqItem.f k (rd_T63 l (i : Int)).f0.f0 (rd_T63 l (i : Int)).f0.f1 (rd_T63 l (i : Int)).f1 (rd_T63 l (i : Int)).f0.f0 (rd_T63 l (i : Int)).f0.f1 (rd_T63 l (i : Int)).f1 = some true := by
      unfold laws_eqItem.f laws_eqPair.f
      rw [if_pos rfl, if_pos rfl, Option.bind_some, if_pos rfl, e1 _ (by omega), Option.bind_some, if_pos rfl]
    show laws_eqItemS.l0 (k + 1) _ _ _ = _
    simp only [laws_eqItemS.l0]
    rw [if_pos (by omega), if_pos (by omega), if_pos (by omega), hi2, Option.bind_some, if_pos rfl, w64 (by omega) (by omega)]
    exact hy
theorem eqProof_ev (a b : Int) (l : List S63) (h : FewI l) : Ev (fun k => laws_eqProof.f k a b l a b l) true := by
  obtain ⟨K, e⟩ := Ev.get (eqItemS_loop l h.1 h.2 _ 0 rfl (by omega))
  refine ⟨K, fun k hk => ?_⟩
  have hx : laws_eqItemS.l0 k l l 0 = some true := e k hk
  show laws_eqProof.f k a b l a b l = _
  unfold laws_eqProof.f laws_eqItemS.f
  rw [if_pos rfl, if_pos rfl, if_pos rfl, hx, Option.bind_some, if_pos rfl]
noncomputable def mkI : List S63 → Int → List S63 × Int
  | [], a => ([], a)
  | x :: l, a => (⟨⟨mtx a, mtx (a + 1)⟩, marksStr (a + 2) x.f1.length⟩ :: (mkI l (a + 2 + x.f1.length)).1, (mkI l (a + 2 + x.f1.length)).2)
theorem mkI_ge : ∀ (l : List S63) (a : Int), a ≤ (mkI l a).2 := by
  intro l
  induction l with
  | nil => intro a; exact Int.le_refl _
  | cons x l ih => intro a; have := ih (a + 2 + x.f1.length); show a ≤ (mkI l (a + 2 + x.f1.length)).2; omega
theorem mi_ev : ∀ (l done : List S63) (a : Int), 0 ≤ a → a + 2000000 * (l.length : Int) ≤ 50000000000000 → (∀ x ∈ l, x.f1.length ≤ 1100000) → Ev (fun k => mi k l.length done.length (done ++ l) a) ((mkI l a).2, done ++ (mkI l a).1) := by
  intro l
  induction l with
  | nil => intro done a _ _ _; exact Ev.now _
  | cons x l ih =>
    intro done a h0 h1 hp
    have hx := hp x List.mem_cons_self
    simp only [List.length_cons] at h1
    obtain ⟨K1, e1⟩ := Ev.get (markText_ev a (by omega))
    obtain ⟨K2, e2⟩ := Ev.get (markText_ev (a + 1) (by omega))
    obtain ⟨K3, e3⟩ := Ev.get (markStringS_ev x.f1 (a + 2) (by omega) (by omega) (by omega))
    obtain ⟨K4, e4⟩ := Ev.get (ih (done ++ [⟨⟨mtx a, mtx (a + 1)⟩, marksStr (a + 2) x.f1.length⟩]) (a + 2 + x.f1.length) (by omega) (by omega) (fun y hy => hp y (List.mem_cons_of_mem _ hy)))
    refine ⟨K1 + K2 + K3 + K4, fun k hk => ?_⟩
    have f4 := e4 k (by omega)
    have f3 : laws_markStringS.f k x.f1 (a + 2) = _ := e3 k (by omega)
    show mi k (l.length + 1) done.length (done ++ x :: l) a = _
    have hg : (done ++ x :: l).getD done.length z63 = x := by
      rw [List.getD_eq_getElem?_getD, List.getElem?_append_right (Nat.le_refl _), Nat.sub_self]
      rfl
    have hs : ∀ y : S63, (done ++ x :: l).set done.length y = (done ++ [y]) ++ l := fun y => by
      rw [List.set_append, if_neg (by omega), Nat.sub_self, List.set_cons_zero, List.append_assoc]
      rfl
    rw [mi, e1 k (by omega), Option.bind_some, w64 (x := a + 1) (by omega) (by omega), e2 k (by omega), Option.bind_some, w64 (by omega) (by omega), hg, show a + 1 + 1 = a + 2 by omega, f3, Option.bind_some, hs]
    have f5 : mi k l.length (done ++ [(⟨⟨mtx a, mtx (a + 1)⟩, marksStr (a + 2) x.f1.length⟩ : S63)]).length ((done ++ [⟨⟨mtx a, mtx (a + 1)⟩, marksStr (a + 2) x.f1.length⟩]) ++ l) (a + 2 + x.f1.length) = _ := f4
    rw [List.length_append, List.length_singleton] at f5
    rw [f5, mkI, List.append_assoc]
    rfl
theorem markProof_ev (a0 a1 : Int) (l : List S63) (h : FewI l) : Ev (fun k => laws_markProof.f k a0 a1 l 1) ((mkI l 1).2, (mkI l 1).1) := by
  obtain ⟨h1, h2⟩ := h
  obtain ⟨K, e⟩ := Ev.get (mi_ev l [] 1 (by omega) (by omega) h2)
  refine ⟨K, fun k hk => ?_⟩
  show laws_markProof.f k a0 a1 l 1 = _
  unfold laws_markProof.f mi_all
  rw [if_pos (by omega)]
  exact e k hk
end Go.Proofs.Ytgaalomhipfgjaa.P
