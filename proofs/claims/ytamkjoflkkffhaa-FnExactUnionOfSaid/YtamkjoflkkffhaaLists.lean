/- The laws' helpers over rows of pairs, of orders, of texts: copies, comparisons, marks, what is held, sizes. No condition but bounds on lengths. -/
import Derived.Test.YtamkjoflkkffhaaHelp
import Derived.Test.YtamkjoflkkffhaaSizes
import Derived.Test.YtamkjoflkkffhaaPx0
import Derived.Test.YtamkjoflkkffhaaPx2
import Derived.Test.YtamkjoflkkffhaaPx3
import Derived.Test.YtamkjoflkkffhaaPx4
import Derived.Test.YtamkjoflkkffhaaPx5
namespace Go.Proofs.Ytamkjoflkkffhaa.P
open Go.RowKit Go.Proofs.YtamkjoflkkffhaaW.PrintWords Go.Proofs.YtamkjoflkkffhaaW.PrintLast Go.Proofs.YtamkjoflkkffhaaW.PrintMore
set_option linter.unusedVariables false
set_option linter.unusedSimpArgs false
/-- What a marked row holds: el of its first number, its next, .. -/
def marksG {α : Type} (el : Int → α) (s : Int) : Int → Nat → List α
  | _, 0 => []
  | k, n + 1 => el k :: marksG el s (k + s) n
theorem marksG_length {α : Type} (el : Int → α) (s : Int) (n : Nat) : ∀ k : Int, (marksG el s k n).length = n := by
  induction n with
  | zero => intro k; rfl
  | succ n ih => intro k; simp [marksG, ih]
theorem marksG_get {α : Type} (el : Int → α) (s : Int) (n : Nat) : ∀ (k : Int) (i : Nat), i < n → (marksG el s k n)[i]? = some (el (k + s * i)) := by
  induction n with
  | zero => intro k i h; omega
  | succ n ih =>
    intro k i h
    cases i with
    | zero => simp [marksG]
    | succ i =>
      simp only [marksG, List.getElem?_cons_succ]
      rw [ih (k + s) i (by omega), show k + s + s * (i : Int) = k + s * ((i + 1 : Nat) : Int) by rw [Int.natCast_add, Int.mul_add]; simp; omega]
theorem marksG_succ {α : Type} (el : Int → α) (s : Int) (n : Nat) : ∀ k : Int, marksG el s k (n + 1) = marksG el s k n ++ [el (k + s * n)] := by
  induction n with
  | zero => intro k; simp [marksG]
  | succ n ih =>
    intro k
    rw [marksG, ih (k + s), marksG, List.cons_append, show k + s + s * (n : Int) = k + s * ((n + 1 : Nat) : Int) by rw [Int.natCast_add, Int.mul_add]; simp; omega]
theorem marksG_set {α : Type} (el : Int → α) (s : Int) (l : List α) (k : Int) (i : Nat) (h : i < l.length) : (marksG el s k i ++ l.drop i).set i (el (k + s * i)) = marksG el s k (i + 1) ++ l.drop (i + 1) := by
  rw [List.set_append, if_neg (by rw [marksG_length]; omega), marksG_length, Nat.sub_self, List.drop_eq_getElem_cons h, List.set_cons_zero, marksG_succ, List.append_assoc]
  rfl
theorem marksG_cut {α : Type} (el : Int → α) (s : Int) (l : List α) (k : Int) (i : Nat) (h : i ≤ l.length) : (marksG el s k i ++ l.drop i).length = l.length := by
  rw [List.length_append, marksG_length, List.length_drop]
  omega
theorem rdOf_nat (l : List ByteArray) (i : Nat) (h : i < l.length) : rdOf ByteArray.empty l (i : Int) = l[i] := by
  unfold rdOf
  simp [List.getD_eq_getElem?_getD, h]
theorem size_le_sum {l : List ByteArray} {s : ByteArray} (h : s ∈ l) : s.size ≤ (l.map ByteArray.size).sum := by
  induction l with
  | nil => cases h
  | cons x l ih =>
    rcases List.mem_cons.1 h with rfl | h
    · simp
    · have := ih h; simp; omega
theorem markText_loop (n : Nat) : ∀ s : ByteArray, s.size + n ≤ 9223372036854775000 → ∃ r, Ev (fun k => laws_markText.l0 k (n : Int) s) r := by
  induction n using Nat.strongRecOn with
  | _ n ih =>
    intro s hs
    rcases Nat.eq_zero_or_pos n with rfl | hn
    · refine ⟨_, Ev.up (Ev.now ((⟨#[109]⟩ : ByteArray) ++ s)) (fun k _ => ?_)⟩
      simp only [laws_markText.l0]
      rw [if_neg (by omega), if_pos (by omega)]
    · have hq : Int.tdiv (n : Int) 10 = ((n / 10 : Nat) : Int) := by rw [Int.tdiv_eq_ediv_of_nonneg (by omega)]; rfl
      have hz : ∀ x : Int, (strOfNums [x]).size = 1 := fun x => by rw [strOfNums_size]; rfl
      obtain ⟨r, hr⟩ := ih (n / 10) (by omega) (strOfNums [(wrap64 (48 + (Int.tmod (n : Int) 10))) % 256] ++ s) (by rw [ByteArray.size_append, hz]; omega)
      refine ⟨r, Ev.up hr (fun k hk => ?_)⟩
      simp only [laws_markText.l0, Option.bind_some]
      rw [if_pos (by omega), if_pos (by rw [hz]; omega), hq, w64 (by omega) (by omega)]
      exact hk
theorem markText_some (k : Int) (h : k ≤ 1000000000000000) : ∃ r, Ev (fun n => laws_markText.f n k) r := by
  by_cases c : k ≤ 0
  · refine ⟨_, (Ev.now (⟨#[109, 48]⟩ : ByteArray)).congr (fun n => ?_)⟩
    unfold laws_markText.f
    rw [if_pos c]
  · obtain ⟨m, rfl⟩ := Int.eq_ofNat_of_zero_le (show 0 ≤ k by omega)
    obtain ⟨r, hr⟩ := markText_loop m (⟨#[]⟩ : ByteArray) (by show 0 + m ≤ _; omega)
    refine ⟨r, hr.congr (fun n => ?_)⟩
    unfold laws_markText.f
    rw [if_neg c]
instance : Nonempty ByteArray := ⟨⟨#[]⟩⟩
/-- A number's mark. -/
noncomputable def mtx (k : Int) : ByteArray := Classical.epsilon (fun r => Ev (fun n => laws_markText.f n k) r)
theorem markText_ev (k : Int) (h : k ≤ 1000000000000000) : Ev (fun n => laws_markText.f n k) (mtx k) := Classical.epsilon_spec (markText_some k h)

theorem rd_53_nat (l : List S53) (i : Nat) (h : i < l.length) : rd_T53 l (i : Int) = l[i] := by
  unfold rd_T53
  simp [List.getD_eq_getElem?_getD, h]
theorem rd_53_set (l : List S53) (i : Nat) (h : i < l.length) (a : S53) : rd_T53 (l.set i a) (i : Int) = a := by
  rw [rd_53_nat _ i (by simpa using h)]
  simp
theorem rd_65_nat (l : List S65) (i : Nat) (h : i < l.length) : rd_T65 l (i : Int) = l[i] := by
  unfold rd_T65
  simp [List.getD_eq_getElem?_getD, h]
def cvtPair (p : S65) : S53 := ⟨p.f0, p.f1⟩
theorem toPairS_loop (x0 : List S65) (hn : x0.length ≤ 1000000000000) : ∀ d i : Nat, x0.length - i = d → i ≤ x0.length →
    Ev (fun k => laws_toPairS.l0 k x0 ((x0.take i).map cvtPair ++ List.replicate (x0.length - i) z53) (i : Int)) (x0.map cvtPair) := by
  intro d
  induction d with
  | zero =>
    intro i hd hi
    obtain rfl : i = x0.length := by omega
    refine Ev.up (Ev.now (x0.map cvtPair)) (fun k _ => ?_)
    simp only [laws_toPairS.l0]
    rw [if_neg (by omega), copy_end]
  | succ d ih =>
    intro i hd hi
    refine Ev.up (ih (i + 1) (by omega) (by omega)) (fun k h => ?_)
    have hl := copy_len x0 cvtPair z53 i hi
    have hs := copy_step x0 cvtPair z53 i (by omega)
    simp only [laws_toPairS.l0, laws_toPair.f, Option.bind_some]
    rw [if_pos (by omega), if_pos (by omega), if_pos (by rw [hl]; omega), rd_65_nat x0 i (by omega), Int.toNat_natCast, w64 (by omega) (by omega)]
    rw [cvtPair] at hs
    rw [hs]
    exact h
theorem toPairS_ev (l : List S65) (hn : l.length ≤ 1000000000000) : Ev (fun k => laws_toPairS.f k l) (l.map cvtPair) := by
  obtain ⟨K, hK⟩ := Ev.get (toPairS_loop l hn _ 0 rfl (by omega))
  refine ⟨K, fun k hk => ?_⟩
  have h := hK k hk
  show laws_toPairS.f k l = _
  unfold laws_toPairS.f
  rw [if_pos (by omega), if_pos (by omega), Int.toNat_natCast, copy_start l cvtPair]
  exact h
theorem eqPair_self (a0 : ByteArray) (a1 : ByteArray) : laws_eqPair.f a0 a1 a0 a1 = some true := by
  unfold laws_eqPair.f
  simp
theorem eqPairS_loop (l : List S53) (hn : l.length ≤ 1000000000000) : ∀ d i : Nat, l.length - i = d → i ≤ l.length → Ev (fun k => laws_eqPairS.l0 k l l (i : Int)) true := by
  intro d
  induction d with
  | zero =>
    intro i hd hi
    refine Ev.up (Ev.now true) (fun k _ => ?_)
    simp only [laws_eqPairS.l0]
    rw [if_neg (by omega)]
  | succ d ih =>
    intro i hd hi
    refine Ev.up (ih (i + 1) (by omega) (by omega)) (fun k h => ?_)
    simp only [laws_eqPairS.l0, eqPair_self, Option.bind_some]
    rw [if_pos (by omega), if_pos (by omega), if_pos (by omega), if_pos trivial, w64 (by omega) (by omega)]
    exact h
theorem eqPairS_ev (l : List S53) (hn : l.length ≤ 1000000000000) : Ev (fun k => laws_eqPairS.f k l l) true := by
  obtain ⟨K, hK⟩ := Ev.get (eqPairS_loop l hn _ 0 rfl (by omega))
  refine ⟨K, fun k hk => ?_⟩
  show laws_eqPairS.f k l l = some true
  unfold laws_eqPairS.f
  rw [if_pos rfl]
  exact hK k hk
noncomputable def elPair (k : Int) : S53 := ⟨mtx (k), mtx (k + 1)⟩
noncomputable def marksPair (k : Int) (n : Nat) : List S53 := marksG elPair 2 k n
theorem markPairS_loop (l : List S53) (k0 : Int) (h0 : 0 ≤ k0) (hk0 : k0 ≤ 100000000000000) (hn : l.length ≤ 1000000000000) : ∀ d i : Nat, l.length - i = d → i ≤ l.length →
    Ev (fun k => laws_markPairS.l0 k (marksPair k0 i ++ l.drop i) (k0 + 2 * (i : Int)) (i : Int)) (k0 + 2 * (l.length : Int), marksPair k0 l.length) := by
  intro d
  induction d with
  | zero =>
    intro i hd hi
    obtain rfl : i = l.length := by omega
    refine Ev.up (Ev.now (k0 + 2 * (l.length : Int), marksPair k0 l.length)) (fun k _ => ?_)
    simp only [laws_markPairS.l0]
    rw [if_neg (by unfold marksPair; rw [marksG_cut _ _ _ _ _ (Nat.le_refl _)]; omega), List.drop_length, List.append_nil]
  | succ d ih =>
    intro i hd hi
    obtain ⟨K0, e0⟩ := Ev.get (markText_ev ((k0 + 2 * (i : Int))) (by omega))
    obtain ⟨K1, e1⟩ := Ev.get (markText_ev ((k0 + 2 * (i : Int)) + 1) (by omega))
    obtain ⟨K9, e9⟩ := Ev.get (ih (i + 1) (by omega) (by omega))
    refine ⟨K0 + K1 + K9 + 1, fun k hk => ?_⟩
    obtain ⟨k, rfl⟩ : ∃ j, k = j + 1 := ⟨k - 1, by omega⟩
    have hl : (marksPair k0 i ++ l.drop i).length = l.length := marksG_cut _ _ _ _ _ (by omega)
    have hs : (marksPair k0 i ++ l.drop i).set i (elPair (k0 + 2 * (i : Int))) = marksPair k0 (i + 1) ++ l.drop (i + 1) := marksG_set _ _ _ _ _ (by omega)
    have hil : i < (marksPair k0 i ++ l.drop i).length := by omega
    show laws_markPairS.l0 (k + 1) _ _ _ = _
    generalize marksPair k0 i ++ l.drop i = X at hl hs hil ⊢
    simp only [laws_markPairS.l0]
    rw [if_pos (by omega), e0 _ (by omega), Option.bind_some, if_pos (by omega), Option.bind_some, Int.toNat_natCast, w64 (x := k0 + 2 * (i : Int) + 1) (by omega) (by omega), e1 _ (by omega), Option.bind_some, rd_53_set X i hil, List.set_set]
    rw [show X.set i (⟨mtx (k0 + 2 * (i : Int)), mtx (k0 + 2 * (i : Int) + 1)⟩ : S53) = X.set i (elPair (k0 + 2 * (i : Int))) from rfl, hs, w64 (by omega) (by omega), w64 (by omega) (by omega)]
    have e : k0 + 2 * (i : Int) + 1 + 1 = k0 + 2 * ((i + 1 : Nat) : Int) := by omega
    have e2 : ((i : Int) + 1) = ((i + 1 : Nat) : Int) := by omega
    rw [e, e2]
    exact e9 _ (by omega)
theorem markPairS_ev (l : List S53) (k0 : Int) (h0 : 0 ≤ k0) (hk0 : k0 ≤ 100000000000000) (hn : l.length ≤ 1000000000000) : Ev (fun k => laws_markPairS.f k l k0) (k0 + 2 * (l.length : Int), marksPair k0 l.length) := by
  obtain ⟨K, hK⟩ := Ev.get (markPairS_loop l k0 h0 hk0 hn _ 0 rfl (by omega))
  refine ⟨K, fun k hk => ?_⟩
  have h := hK k hk
  rw [show marksPair k0 0 = [] from rfl, List.nil_append, List.drop_zero, show k0 + 2 * ((0 : Nat) : Int) = k0 by omega] at h
  exact h
theorem marksPair_length (k : Int) (n : Nat) : (marksPair k n).length = n := marksG_length _ _ _ _
theorem heldPairS_loop (n : Nat) (k0 : Int) (h0 : 0 ≤ k0) (hk0 : k0 ≤ 100000000000000) (hn : n ≤ 1000000000000) : ∀ d i : Nat, n - i = d → i ≤ n →
    Ev (fun k => laws_heldPairS.l0 k (marksPair k0 n) (k0 + 2 * (i : Int)) (i : Int)) (k0 + 2 * (n : Int)) := by
  intro d
  induction d with
  | zero =>
    intro i hd hi
    obtain rfl : i = n := by omega
    refine Ev.up (Ev.now (k0 + 2 * (i : Int))) (fun k _ => ?_)
    simp only [laws_heldPairS.l0]
    rw [if_neg (by rw [marksPair_length]; omega)]
  | succ d ih =>
    intro i hd hi
    obtain ⟨K0, e0⟩ := Ev.get (markText_ev ((k0 + 2 * (i : Int))) (by omega))
    obtain ⟨K1, e1⟩ := Ev.get (markText_ev ((k0 + 2 * (i : Int)) + 1) (by omega))
    obtain ⟨K9, e9⟩ := Ev.get (ih (i + 1) (by omega) (by omega))
    refine ⟨K0 + K1 + K9 + 1, fun k hk => ?_⟩
    obtain ⟨k, rfl⟩ : ∃ j, k = j + 1 := ⟨k - 1, by omega⟩
    have hr : rd_T53 (marksPair k0 n) (i : Int) = elPair (k0 + 2 * (i : Int)) := by
      rw [rd_53_nat _ i (by rw [marksPair_length]; omega)]
      have := marksG_get elPair 2 n k0 i (by omega)
      exact (List.getElem?_eq_some_iff.1 this).2
    show laws_heldPairS.l0 (k + 1) _ _ _ = _
    simp only [laws_heldPairS.l0]
    rw [if_pos (by rw [marksPair_length]; omega), if_pos (by omega), hr]
    rw [e0 _ (by omega), Option.bind_some, if_pos (by rfl), w64 (x := k0 + 2 * (i : Int) + 1) (by omega) (by omega), e1 _ (by omega), Option.bind_some, if_pos (by rfl), w64 (by omega) (by omega), w64 (by omega) (by omega)]
    have e : k0 + 2 * (i : Int) + 1 + 1 = k0 + 2 * ((i + 1 : Nat) : Int) := by omega
    have e2 : ((i : Int) + 1) = ((i + 1 : Nat) : Int) := by omega
    rw [e, e2]
    exact e9 _ (by omega)
theorem heldPairS_ev (n : Nat) (k0 : Int) (h0 : 0 ≤ k0) (hk0 : k0 ≤ 100000000000000) (hn : n ≤ 1000000000000) : Ev (fun k => laws_heldPairS.f k (marksPair k0 n) k0) (k0 + 2 * (n : Int)) := by
  obtain ⟨K, hK⟩ := Ev.get (heldPairS_loop n k0 h0 hk0 hn _ 0 rfl (by omega))
  refine ⟨K, fun k hk => ?_⟩
  have h := hK k hk
  rw [show k0 + 2 * ((0 : Nat) : Int) = k0 by omega] at h
  exact h
def szPairL : List S65 → Int → Int
  | [], left => left
  | p :: l, left => if szM2 p.f0.size p.f1.size left < 0 then -1 else szPairL l (szM2 p.f0.size p.f1.size left)
def szPairM (l : List S65) (left : Int) : Int := if left - l.length < 0 then -1 else szPairL l (left - l.length)
theorem szPairL_ok : ∀ (l : List S65) (left : Int), left ≤ 1048576 → (∀ p ∈ l, p.f0.size ≤ 9223372036854775807 ∧ p.f1.size ≤ 9223372036854775807) → ¬ szPairL l left < 0 → szPairL l left ≤ left ∧ ∀ p ∈ l, (p.f0.size : Int) + p.f1.size ≤ left := by
  intro l
  induction l with
  | nil => intro left _ _ _; exact ⟨Int.le_refl _, fun p hp => by cases hp⟩
  | cons p l ih =>
    intro left h1 hp h
    rw [szPairL] at h ⊢
    have h2 := hp p List.mem_cons_self
    split at h
    · omega
    · rename_i c
      rw [if_neg c]
      obtain ⟨h3, h4⟩ := szM2_ok h1 h2.1 h2.2 c
      obtain ⟨h5, h6⟩ := ih _ (by omega) (fun q hq => hp q (List.mem_cons_of_mem _ hq)) h
      refine ⟨by omega, fun q hq => ?_⟩
      rcases List.mem_cons.1 hq with rfl | hq
      · exact h3
      · have := h6 q hq; omega
theorem szPairM_ok {l : List S65} {left : Int} (h1 : left ≤ 1048576) (hp : ∀ p ∈ l, p.f0.size ≤ 9223372036854775807 ∧ p.f1.size ≤ 9223372036854775807) (h : ¬ szPairM l left < 0) : szPairM l left ≤ left ∧ (l.length : Int) ≤ left ∧ ∀ p ∈ l, (p.f0.size : Int) + p.f1.size ≤ left := by
  unfold szPairM at h ⊢
  split at h
  · omega
  · rename_i c
    rw [if_neg c]
    obtain ⟨h2, h3⟩ := szPairL_ok l _ (by omega) hp h
    exact ⟨by omega, by omega, fun p hq => by have := h3 p hq; omega⟩
theorem szPairS_loop (l : List S65) (hn : l.length ≤ 1048576) (hp : ∀ p ∈ l, p.f0.size ≤ 9223372036854775807 ∧ p.f1.size ≤ 9223372036854775807) : ∀ (d i : Nat) (left : Int), l.length - i = d → i ≤ l.length → 0 ≤ left → left ≤ 1048576 →
    Ev (fun k => laws_szPairS.l0 k l left (i : Int)) (szPairL (l.drop i) left) := by
  intro d
  induction d with
  | zero =>
    intro i left hd hi h0 h1
    refine Ev.up (Ev.now _) (fun k _ => ?_)
    simp only [laws_szPairS.l0]
    rw [if_neg (by omega), List.drop_eq_nil_of_le (by omega)]
    rfl
  | succ d ih =>
    intro i left hd hi h0 h1
    have hil : i < l.length := by omega
    have hq := hp l[i] (List.getElem_mem hil)
    rw [List.drop_eq_getElem_cons hil, szPairL]
    by_cases c : szM2 l[i].f0.size l[i].f1.size left < 0
    · rw [if_pos c]
      refine Ev.up (Ev.now (-1)) (fun k _ => ?_)
      simp only [laws_szPairS.l0]
      rw [if_pos (by omega), if_pos (by omega), rd_65_nat l i hil, szPair_eq _ _ left (by omega) h1 hq.1 hq.2, Option.bind_some, if_pos c]
    · rw [if_neg c]
      obtain ⟨h3, h4⟩ := szM2_ok h1 hq.1 hq.2 c
      refine Ev.up (ih (i + 1) _ (by omega) (by omega) (by omega) (by omega)) (fun k hk => ?_)
      simp only [laws_szPairS.l0]
      rw [if_pos (by omega), if_pos (by omega), rd_65_nat l i hil, szPair_eq _ _ left (by omega) h1 hq.1 hq.2, Option.bind_some, if_neg c, w64 (by omega) (by omega)]
      exact hk
theorem szPairS_ev (l : List S65) (left : Int) (h0 : -1 ≤ left) (h1 : left ≤ 1048576) (hl : l.length ≤ 9223372036854775807) (hp : ∀ p ∈ l, p.f0.size ≤ 9223372036854775807 ∧ p.f1.size ≤ 9223372036854775807) : Ev (fun k => laws_szPairS.f k l left) (szPairM l left) := by
  unfold szPairM
  by_cases c : left - (l.length : Int) < 0
  · rw [if_pos c]
    refine (Ev.now (-1)).congr (fun k => ?_)
    unfold laws_szPairS.f
    rw [w64 (by omega) (by omega), if_pos c]
  · rw [if_neg c]
    refine (szPairS_loop l (by omega) hp _ 0 _ rfl (by omega) (by omega) (by omega)).congr (fun k => ?_)
    unfold laws_szPairS.f
    rw [w64 (by omega) (by omega), if_neg c]
    rfl
theorem rd_84_nat (l : List S84) (i : Nat) (h : i < l.length) : rd_T84 l (i : Int) = l[i] := by
  unfold rd_T84
  simp [List.getD_eq_getElem?_getD, h]
theorem rd_84_set (l : List S84) (i : Nat) (h : i < l.length) (a : S84) : rd_T84 (l.set i a) (i : Int) = a := by
  rw [rd_84_nat _ i (by simpa using h)]
  simp
end Go.Proofs.Ytamkjoflkkffhaa.P
