/- The laws' helpers over rows of pairs, of orders, of texts: copies, comparisons, marks, what is held, sizes. No condition but bounds on lengths. -/
import Derived.Test.YtamkjoflkkffhaaHelp
import Derived.Test.YtamkjoflkkffhaaSizes
import Derived.Test.YtamkjoflkkffhaaPx0
import Derived.Test.YtamkjoflkkffhaaPx2
import Derived.Test.YtamkjoflkkffhaaPx40
import Derived.Test.YtamkjoflkkffhaaPx41
import Derived.Test.YtamkjoflkkffhaaPx42
import Derived.Test.YtamkjoflkkffhaaPx43
namespace Go.Proofs.Ytamkjoflkkffhaa.P
open Go.RowKit Go.Proofs.YtamkjoflkkffhaaW.PrintWords Go.Proofs.YtamkjoflkkffhaaW.PrintLast Go.Proofs.YtamkjoflkkffhaaW.PrintMore
set_option linter.unusedVariables false
set_option linter.unusedSimpArgs false
/-- What a marked row holds: el of its first number, its next, .. -/
def marksG {α : Type} (el : Int → α) (s : Int) : Int → Nat → List α
  | _, 0 => []
  | k, n + 1 => el k :: marksG el s (k + s) n
theorem marksG_length {α : Type} (el : Int → α) (s : Int) (n : Nat) : ∀ k : Int, (marksG el s k n).length = n := by
  induction n with
  | zero => intro k; rfl
  | succ n ih => intro k; simp [marksG, ih]
theorem marksG_get {α : Type} (el : Int → α) (s : Int) (n : Nat) : ∀ (k : Int) (i : Nat), i < n → (marksG el s k n)[i]? = some (el (k + s * i)) := by
  induction n with
  | zero => intro k i h; omega
  | succ n ih =>
    intro k i h
    cases i with
    | zero => simp [marksG]
    | succ i =>
      simp only [marksG, List.getElem?_cons_succ]
      rw [ih (k + s) i (by omega), show k + s + s * (i : Int) = k + s * ((i + 1 : Nat) : Int) by rw [Int.natCast_add, Int.mul_add]; simp; omega]
theorem marksG_succ {α : Type} (el : Int → α) (s : Int) (n : Nat) : ∀ k : Int, marksG el s k (n + 1) = marksG el s k n ++ [el (k + s * n)] := by
  induction n with
  | zero => intro k; simp [marksG]
  | succ n ih =>
    intro k
    rw [marksG, ih (k + s), marksG, List.cons_append, show k + s + s * (n : Int) = k + s * ((n + 1 : Nat) : Int) by rw [Int.natCast_add, Int.mul_add]; simp; omega]
theorem marksG_set {α : Type} (el : Int → α) (s : Int) (l : List α) (k : Int) (i : Nat) (h : i < l.length) : (marksG el s k i ++ l.drop i).set i (el (k + s * i)) = marksG el s k (i + 1) ++ l.drop (i + 1) := by
  rw [List.set_append, if_neg (by rw [marksG_length]; omega), marksG_length, Nat.sub_self, List.drop_eq_getElem_cons h, List.set_cons_zero, marksG_succ, List.append_assoc]
  rfl
theorem marksG_cut {α : Type} (el : Int → α) (s : Int) (l : List α) (k : Int) (i : Nat) (h : i ≤ l.length) : (marksG el s k i ++ l.drop i).length = l.length := by
  rw [List.length_append, marksG_length, List.length_drop]
  omega
theorem rdOf_nat (l : List ByteArray) (i : Nat) (h : i < l.length) : rdOf ByteArray.empty l (i : Int) = l[i] := by
  unfold rdOf
  simp [List.getD_eq_getElem?_getD, h]
theorem size_le_sum {l : List ByteArray} {s : ByteArray} (h : s ∈ l) : s.size ≤ (l.map ByteArray.size).sum := by
  induction l with
  | nil => cases h
  | cons x l ih =>
    rcases List.mem_cons.1 h with rfl | h
    · simp
    · have := ih h; simp; omega
theorem markText_loop (n : Nat) : ∀ s : ByteArray, s.size + n ≤ 9223372036854775000 → ∃ r, Ev (fun k => laws_markText.l0 k (n : Int) s) r := by
  induction n using Nat.strongRecOn with
  | _ n ih =>
    intro s hs
    rcases Nat.eq_zero_or_pos n with rfl | hn
    · refine ⟨_, Ev.up (Ev.now ((⟨#[109]⟩ : ByteArray) ++ s)) (fun k _ => ?_)⟩
      simp only [laws_markText.l0]
      rw [if_neg (by omega), if_pos (by omega)]
    · have hq : Int.tdiv (n : Int) 10 = ((n / 10 : Nat) : Int) := by rw [Int.tdiv_eq_ediv_of_nonneg (by omega)]; rfl
      have hz : ∀ x : Int, (strOfNums [x]).size = 1 := fun x => by rw [strOfNums_size]; rfl
      obtain ⟨r, hr⟩ := ih (n / 10) (by omega) (strOfNums [(wrap64 (48 + (Int.tmod (n : Int) 10))) % 256] ++ s) (by rw [ByteArray.size_append, hz]; omega)
      refine ⟨r, Ev.up hr (fun k hk => ?_)⟩
      simp only [laws_markText.l0, Option.bind_some]
      rw [if_pos (by omega), if_pos (by rw [hz]; omega), hq, w64 (by omega) (by omega)]
      exact hk
theorem markText_some (k : Int) (h : k ≤ 1000000000000000) : ∃ r, Ev (fun n => laws_markText.f n k) r := by
  by_cases c : k ≤ 0
  · refine ⟨_, (Ev.now (⟨#[109, 48]⟩ : ByteArray)).congr (fun n => ?_)⟩
    unfold laws_markText.f
    rw [if_pos c]
  · obtain ⟨m, rfl⟩ := Int.eq_ofNat_of_zero_le (show 0 ≤ k by omega)
    obtain ⟨r, hr⟩ := markText_loop m (⟨#[]⟩ : ByteArray) (by show 0 + m ≤ _; omega)
    refine ⟨r, hr.congr (fun n => ?_)⟩
    unfold laws_markText.f
    rw [if_neg c]
instance : Nonempty ByteArray := ⟨⟨#[]⟩⟩
/-- A number's mark. -/
noncomputable def mtx (k : Int) : ByteArray := Classical.epsilon (fun r => Ev (fun n => laws_markText.f n k) r)
theorem markText_ev (k : Int) (h : k ≤ 1000000000000000) : Ev (fun n => laws_markText.f n k) (mtx k) := Classical.epsilon_spec (markText_some k h)

theorem rd_53_nat (l : List S53) (i : Nat) (h : i < l.length) : rd_T53 l (i : Int) = l[i] := by
  unfold rd_T53
  simp [List.getD_eq_getElem?_getD, h]
theorem rd_53_set (l : List S53) (i : Nat) (h : i < l.length) (a : S53) : rd_T53 (l.set i a) (i : Int) = a := by
  rw [rd_53_nat _ i (by simpa using h)]
  simp
theorem rd_84_nat (l : List S84) (i : Nat) (h : i < l.length) : rd_T84 l (i : Int) = l[i] := by
  unfold rd_T84
  simp [List.getD_eq_getElem?_getD, h]
theorem rd_84_set (l : List S84) (i : Nat) (h : i < l.length) (a : S84) : rd_T84 (l.set i a) (i : Int) = a := by
  rw [rd_84_nat _ i (by simpa using h)]
  simp
theorem eqOp_self (a0 : Int) (a1 : ByteArray) (a2 : ByteArray) : laws_eqOp.f a0 a1 a2 a0 a1 a2 = some true := by
  unfold laws_eqOp.f
  simp
theorem eqOpS_loop (l : List S84) (hn : l.length ≤ 1000000000000) : ∀ d i : Nat, l.length - i = d → i ≤ l.length → Ev (fun k => laws_eqOpS.l0 k l l (i : Int)) true := by
  intro d
  induction d with
  | zero =>
    intro i hd hi
    refine Ev.up (Ev.now true) (fun k _ => ?_)
    simp only [laws_eqOpS.l0]
    rw [if_neg (by omega)]
  | succ d ih =>
    intro i hd hi
    refine Ev.up (ih (i + 1) (by omega) (by omega)) (fun k h => ?_)
    simp only [laws_eqOpS.l0, eqOp_self, Option.bind_some]
    rw [if_pos (by omega), if_pos (by omega), if_pos (by omega), if_pos trivial, w64 (by omega) (by omega)]
    exact h
theorem eqOpS_ev (l : List S84) (hn : l.length ≤ 1000000000000) : Ev (fun k => laws_eqOpS.f k l l) true := by
  obtain ⟨K, hK⟩ := Ev.get (eqOpS_loop l hn _ 0 rfl (by omega))
  refine ⟨K, fun k hk => ?_⟩
  show laws_eqOpS.f k l l = some true
  unfold laws_eqOpS.f
  rw [if_pos rfl]
  exact hK k hk
noncomputable def elOp (k : Int) : S84 := ⟨k, mtx (k + 1), mtx (k + 2)⟩
noncomputable def marksOp (k : Int) (n : Nat) : List S84 := marksG elOp 3 k n
theorem markOpS_loop (l : List S84) (k0 : Int) (h0 : 0 ≤ k0) (hk0 : k0 ≤ 100000000000000) (hn : l.length ≤ 1000000000000) : ∀ d i : Nat, l.length - i = d → i ≤ l.length →
    Ev (fun k => laws_markOpS.l0 k (marksOp k0 i ++ l.drop i) (k0 + 3 * (i : Int)) (i : Int)) (k0 + 3 * (l.length : Int), marksOp k0 l.length) := by
  intro d
  induction d with
  | zero =>
    intro i hd hi
    obtain rfl : i = l.length := by omega
    refine Ev.up (Ev.now (k0 + 3 * (l.length : Int), marksOp k0 l.length)) (fun k _ => ?_)
    simp only [laws_markOpS.l0]
    rw [if_neg (by unfold marksOp; rw [marksG_cut _ _ _ _ _ (Nat.le_refl _)]; omega), List.drop_length, List.append_nil]
  | succ d ih =>
    intro i hd hi
    obtain ⟨K1, e1⟩ := Ev.get (markText_ev ((k0 + 3 * (i : Int)) + 1) (by omega))
    obtain ⟨K2, e2⟩ := Ev.get (markText_ev ((k0 + 3 * (i : Int)) + 2) (by omega))
    obtain ⟨K9, e9⟩ := Ev.get (ih (i + 1) (by omega) (by omega))
    refine ⟨K1 + K2 + K9 + 1, fun k hk => ?_⟩
    obtain ⟨k, rfl⟩ : ∃ j, k = j + 1 := ⟨k - 1, by omega⟩
    have hl : (marksOp k0 i ++ l.drop i).length = l.length := marksG_cut _ _ _ _ _ (by omega)
    have hs : (marksOp k0 i ++ l.drop i).set i (elOp (k0 + 3 * (i : Int))) = marksOp k0 (i + 1) ++ l.drop (i + 1) := marksG_set _ _ _ _ _ (by omega)
    have hil : i < (marksOp k0 i ++ l.drop i).length := by omega
    show laws_markOpS.l0 (k + 1) _ _ _ = _
    generalize marksOp k0 i ++ l.drop i = X at hl hs hil ⊢
    simp only [laws_markOpS.l0]
    rw [if_pos (by omega), if_pos (by omega), Option.bind_some, Int.toNat_natCast, w64 (x := k0 + 3 * (i : Int) + 1) (by omega) (by omega), e1 _ (by omega), Option.bind_some, Option.bind_some, w64 (x := k0 + 3 * (i : Int) + 1 + 1) (by omega) (by omega), show k0 + 3 * (i : Int) + 1 + 1 = k0 + 3 * (i : Int) + 2 by omega, e2 _ (by omega), Option.bind_some]
    simp only [rd_84_set X i hil, List.set_set]
    rw [show X.set i (⟨k0 + 3 * (i : Int), mtx (k0 + 3 * (i : Int) + 1), mtx (k0 + 3 * (i : Int) + 2)⟩ : S84) = X.set i (elOp (k0 + 3 * (i : Int))) from rfl, hs, w64 (by omega) (by omega), w64 (by omega) (by omega)]
    have e : k0 + 3 * (i : Int) + 2 + 1 = k0 + 3 * ((i + 1 : Nat) : Int) := by omega
    have e' : ((i : Int) + 1) = ((i + 1 : Nat) : Int) := by omega
    rw [e, e']
    exact e9 _ (by omega)
theorem markOpS_ev (l : List S84) (k0 : Int) (h0 : 0 ≤ k0) (hk0 : k0 ≤ 100000000000000) (hn : l.length ≤ 1000000000000) : Ev (fun k => laws_markOpS.f k l k0) (k0 + 3 * (l.length : Int), marksOp k0 l.length) := by
  obtain ⟨K, hK⟩ := Ev.get (markOpS_loop l k0 h0 hk0 hn _ 0 rfl (by omega))
  refine ⟨K, fun k hk => ?_⟩
  have h := hK k hk
  rw [show marksOp k0 0 = [] from rfl, List.nil_append, List.drop_zero, show k0 + 3 * ((0 : Nat) : Int) = k0 by omega] at h
  exact h
theorem marksOp_length (k : Int) (n : Nat) : (marksOp k n).length = n := marksG_length _ _ _ _
theorem heldOpS_loop (n : Nat) (k0 : Int) (h0 : 0 ≤ k0) (hk0 : k0 ≤ 100000000000000) (hn : n ≤ 1000000000000) : ∀ d i : Nat, n - i = d → i ≤ n →
    Ev (fun k => laws_heldOpS.l0 k (marksOp k0 n) (k0 + 3 * (i : Int)) (i : Int)) (k0 + 3 * (n : Int)) := by
  intro d
  induction d with
  | zero =>
    intro i hd hi
    obtain rfl : i = n := by omega
    refine Ev.up (Ev.now (k0 + 3 * (i : Int))) (fun k _ => ?_)
    simp only [laws_heldOpS.l0]
    rw [if_neg (by rw [marksOp_length]; omega)]
  | succ d ih =>
    intro i hd hi
    obtain ⟨K1, e1⟩ := Ev.get (markText_ev ((k0 + 3 * (i : Int)) + 1) (by omega))
    obtain ⟨K2, e2⟩ := Ev.get (markText_ev ((k0 + 3 * (i : Int)) + 2) (by omega))
    obtain ⟨K9, e9⟩ := Ev.get (ih (i + 1) (by omega) (by omega))
    refine ⟨K1 + K2 + K9 + 1, fun k hk => ?_⟩
    obtain ⟨k, rfl⟩ : ∃ j, k = j + 1 := ⟨k - 1, by omega⟩
    have hr : rd_T84 (marksOp k0 n) (i : Int) = elOp (k0 + 3 * (i : Int)) := by
      rw [rd_84_nat _ i (by rw [marksOp_length]; omega)]
      have := marksG_get elOp 3 n k0 i (by omega)
      exact (List.getElem?_eq_some_iff.1 this).2
    show laws_heldOpS.l0 (k + 1) _ _ _ = _
    simp only [laws_heldOpS.l0]
    rw [if_pos (by rw [marksOp_length]; omega), if_pos (by omega), hr]
    rw [if_pos (by rfl), w64 (x := k0 + 3 * (i : Int) + 1) (by omega) (by omega), e1 _ (by omega), Option.bind_some, if_pos (by rfl), w64 (x := k0 + 3 * (i : Int) + 1 + 1) (by omega) (by omega), show k0 + 3 * (i : Int) + 1 + 1 = k0 + 3 * (i : Int) + 2 by omega, e2 _ (by omega), Option.bind_some, if_pos (by rfl), w64 (by omega) (by omega), w64 (by omega) (by omega)]
    have e : k0 + 3 * (i : Int) + 2 + 1 = k0 + 3 * ((i + 1 : Nat) : Int) := by omega
    have e' : ((i : Int) + 1) = ((i + 1 : Nat) : Int) := by omega
    rw [e, e']
    exact e9 _ (by omega)
theorem heldOpS_ev (n : Nat) (k0 : Int) (h0 : 0 ≤ k0) (hk0 : k0 ≤ 100000000000000) (hn : n ≤ 1000000000000) : Ev (fun k => laws_heldOpS.f k (marksOp k0 n) k0) (k0 + 3 * (n : Int)) := by
  obtain ⟨K, hK⟩ := Ev.get (heldOpS_loop n k0 h0 hk0 hn _ 0 rfl (by omega))
  refine ⟨K, fun k hk => ?_⟩
  have h := hK k hk
  rw [show k0 + 3 * ((0 : Nat) : Int) = k0 by omega] at h
  exact h
end Go.Proofs.Ytamkjoflkkffhaa.P
