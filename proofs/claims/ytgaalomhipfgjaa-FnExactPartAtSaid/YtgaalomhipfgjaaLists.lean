/- The laws' helpers over rows of pairs, of orders, of texts: copies, comparisons, marks, what is held, sizes. No condition but bounds on lengths. -/
import Derived.Test.YtgaalomhipfgjaaHelp
import Derived.Test.YtgaalomhipfgjaaSizes
import Derived.Test.YtgaalomhipfgjaaPx0
import Derived.Test.YtgaalomhipfgjaaPx12
import Derived.Test.YtgaalomhipfgjaaPx13
namespace Go.Proofs.Ytgaalomhipfgjaa.P
open Go.RowKit Go.Proofs.YtgaalomhipfgjaaW.PrintWords Go.Proofs.YtgaalomhipfgjaaW.PrintLast Go.Proofs.YtgaalomhipfgjaaW.PrintMore
set_option linter.unusedVariables false
set_option linter.unusedSimpArgs false
/-- What a marked row holds: el of its first number, its next, .. -/
def marksG {α : Type} (el : Int → α) (s : Int) : Int → Nat → List α
  | _, 0 => []
  | k, n + 1 => el k :: marksG el s (k + s) n
theorem marksG_length {α : Type} (el : Int → α) (s : Int) (n : Nat) : ∀ k : Int, (marksG el s k n).length = n := by
  induction n with
  | zero => intro k; rfl
  | succ n ih => intro k; simp [marksG, ih]
theorem marksG_get {α : Type} (el : Int → α) (s : Int) (n : Nat) : ∀ (k : Int) (i : Nat), i < n → (marksG el s k n)[i]? = some (el (k + s * i)) := by
  induction n with
  | zero => intro k i h; omega
  | succ n ih =>
    intro k i h
    cases i with
    | zero => simp [marksG]
    | succ i =>
      simp only [marksG, List.getElem?_cons_succ]
      rw [ih (k + s) i (by omega), show k + s + s * (i : Int) = k + s * ((i + 1 : Nat) : Int) by rw [Int.natCast_add, Int.mul_add]; simp; omega]
theorem marksG_succ {α : Type} (el : Int → α) (s : Int) (n : Nat) : ∀ k : Int, marksG el s k (n + 1) = marksG el s k n ++ [el (k + s * n)] := by
  induction n with
  | zero => intro k; simp [marksG]
  | succ n ih =>
    intro k
    rw [marksG, ih (k + s), marksG, List.cons_append, show k + s + s * (n : Int) = k + s * ((n + 1 : Nat) : Int) by rw [Int.natCast_add, Int.mul_add]; simp; omega]
theorem marksG_set {α : Type} (el : Int → α) (s : Int) (l : List α) (k : Int) (i : Nat) (h : i < l.length) : (marksG el s k i ++ l.drop i).set i (el (k + s * i)) = marksG el s k (i + 1) ++ l.drop (i + 1) := by
  rw [List.set_append, if_neg (by rw [marksG_length]; omega), marksG_length, Nat.sub_self, List.drop_eq_getElem_cons h, List.set_cons_zero, marksG_succ, List.append_assoc]
  rfl
theorem marksG_cut {α : Type} (el : Int → α) (s : Int) (l : List α) (k : Int) (i : Nat) (h : i ≤ l.length) : (marksG el s k i ++ l.drop i).length = l.length := by
  rw [List.length_append, marksG_length, List.length_drop]
  omega
theorem rdOf_nat (l : List ByteArray) (i : Nat) (h : i < l.length) : rdOf ByteArray.empty l (i : Int) = l[i] := by
  unfold rdOf
  simp [List.getD_eq_getElem?_getD, h]
theorem size_le_sum {l : List ByteArray} {s : ByteArray} (h : s ∈ l) : s.size ≤ (l.map ByteArray.size).sum := by
  induction l with
  | nil => cases h
  | cons x l ih =>
    rcases List.mem_cons.1 h with rfl | h
    · simp
    · have := ih h; simp; omega
theorem rd_26_nat (l : List S26) (i : Nat) (h : i < l.length) : rd_T26 l (i : Int) = l[i] := by
  unfold rd_T26
  simp [List.getD_eq_getElem?_getD, h]
theorem rd_26_set (l : List S26) (i : Nat) (h : i < l.length) (a : S26) : rd_T26 (l.set i a) (i : Int) = a := by
  rw [rd_26_nat _ i (by simpa using h)]
  simp
theorem rd_66_nat (l : List S66) (i : Nat) (h : i < l.length) : rd_T66 l (i : Int) = l[i] := by
  unfold rd_T66
  simp [List.getD_eq_getElem?_getD, h]
def cvtPair (p : S66) : S26 := ⟨p.f0, p.f1⟩
theorem toPairS_loop (x0 : List S66) (hn : x0.length ≤ 1000000000000) : ∀ d i : Nat, x0.length - i = d → i ≤ x0.length →
    Ev (fun k => laws_toPairS.l0 k x0 ((x0.take i).map cvtPair ++ List.replicate (x0.length - i) z26) (i : Int)) (x0.map cvtPair) := by
  intro d
  induction d with
  | zero =>
    intro i hd hi
    obtain rfl : i = x0.length := by omega
    refine Ev.up (Ev.now (x0.map cvtPair)) (fun k _ => ?_)
    simp only [laws_toPairS.l0]
    rw [if_neg (by omega), copy_end]
  | succ d ih =>
    intro i hd hi
    refine Ev.up (ih (i + 1) (by omega) (by omega)) (fun k h => ?_)
    have hl := copy_len x0 cvtPair z26 i hi
    have hs := copy_step x0 cvtPair z26 i (by omega)
    simp only [laws_toPairS.l0, laws_toPair.f, Option.bind_some]
    rw [if_pos (by omega), if_pos (by omega), if_pos (by rw [hl]; omega), rd_66_nat x0 i (by omega), Int.toNat_natCast, w64 (by omega) (by omega)]
    rw [cvtPair] at hs
    rw [hs]
    exact h
theorem toPairS_ev (l : List S66) (hn : l.length ≤ 1000000000000) : Ev (fun k => laws_toPairS.f k l) (l.map cvtPair) := by
  obtain ⟨K, hK⟩ := Ev.get (toPairS_loop l hn _ 0 rfl (by omega))
  refine ⟨K, fun k hk => ?_⟩
  have h := hK k hk
  show laws_toPairS.f k l = _
  unfold laws_toPairS.f
  rw [if_pos (by omega), if_pos (by omega), Int.toNat_natCast, copy_start l cvtPair]
  exact h
theorem eqPair_self (a0 : ByteArray) (a1 : ByteArray) : laws_eqPair.f a0 a1 a0 a1 = some true := by
  unfold laws_eqPair.f
  simp
theorem eqPairS_loop (l : List S26) (hn : l.length ≤ 1000000000000) : ∀ d i : Nat, l.length - i = d → i ≤ l.length → Ev (fun k => laws_eqPairS.l0 k l l (i : Int)) true := by
  intro d
  induction d with
  | zero =>
    intro i hd hi
    refine Ev.up (Ev.now true) (fun k _ => ?_)
    simp only [laws_eqPairS.l0]
    rw [if_neg (by omega)]
  | succ d ih =>
    intro i hd hi
    refine Ev.up (ih (i + 1) (by omega) (by omega)) (fun k h => ?_)
    simp only [laws_eqPairS.l0, eqPair_self, Option.bind_some]
    rw [if_pos (by omega), if_pos (by omega), if_pos (by omega), if_pos trivial, w64 (by omega) (by omega)]
    exact h
theorem eqPairS_ev (l : List S26) (hn : l.length ≤ 1000000000000) : Ev (fun k => laws_eqPairS.f k l l) true := by
  obtain ⟨K, hK⟩ := Ev.get (eqPairS_loop l hn _ 0 rfl (by omega))
  refine ⟨K, fun k hk => ?_⟩
  show laws_eqPairS.f k l l = some true
  unfold laws_eqPairS.f
  rw [if_pos rfl]
  exact hK k hk
def szPairL : List S66 → Int → Int
  | [], left => left
  | p :: l, left => if szM2 p.f0.size p.f1.size left < 0 then -1 else szPairL l (szM2 p.f0.size p.f1.size left)
def szPairM (l : List S66) (left : Int) : Int := if left - l.length < 0 then -1 else szPairL l (left - l.length)
theorem szPairL_ok : ∀ (l : List S66) (left : Int), left ≤ 1048576 → (∀ p ∈ l, p.f0.size ≤ 9223372036854775807 ∧ p.f1.size ≤ 9223372036854775807) → ¬ szPairL l left < 0 → szPairL l left ≤ left ∧ ∀ p ∈ l, (p.f0.size : Int) + p.f1.size ≤ left := by
  intro l
  induction l with
  | nil => intro left _ _ _; exact ⟨Int.le_refl _, fun p hp => by cases hp⟩
  | cons p l ih =>
    intro left h1 hp h
    rw [szPairL] at h ⊢
    have h2 := hp p List.mem_cons_self
    split at h
    · omega
    · rename_i c
      rw [if_neg c]
      obtain ⟨h3, h4⟩ := szM2_ok h1 h2.1 h2.2 c
      obtain ⟨h5, h6⟩ := ih _ (by omega) (fun q hq => hp q (List.mem_cons_of_mem _ hq)) h
      refine ⟨by omega, fun q hq => ?_⟩
      rcases List.mem_cons.1 hq with rfl | hq
      · exact h3
      · have := h6 q hq; omega
theorem szPairM_ok {l : List S66} {left : Int} (h1 : left ≤ 1048576) (hp : ∀ p ∈ l, p.f0.size ≤ 9223372036854775807 ∧ p.f1.size ≤ 9223372036854775807) (h : ¬ szPairM l left < 0) : szPairM l left ≤ left ∧ (l.length : Int) ≤ left ∧ ∀ p ∈ l, (p.f0.size : Int) + p.f1.size ≤ left := by
  unfold szPairM at h ⊢
  split at h
  · omega
  · rename_i c
    rw [if_neg c]
    obtain ⟨h2, h3⟩ := szPairL_ok l _ (by omega) hp h
    exact ⟨by omega, by omega, fun p hq => by have := h3 p hq; omega⟩
theorem szPairS_loop (l : List S66) (hn : l.length ≤ 1048576) (hp : ∀ p ∈ l, p.f0.size ≤ 9223372036854775807 ∧ p.f1.size ≤ 9223372036854775807) : ∀ (d i : Nat) (left : Int), l.length - i = d → i ≤ l.length → 0 ≤ left → left ≤ 1048576 →
    Ev (fun k => laws_szPairS.l0 k l left (i : Int)) (szPairL (l.drop i) left) := by
  intro d
  induction d with
  | zero =>
    intro i left hd hi h0 h1
    refine Ev.up (Ev.now _) (fun k _ => ?_)
    simp only [laws_szPairS.l0]
    rw [if_neg (by omega), List.drop_eq_nil_of_le (by omega)]
    rfl
  | succ d ih =>
    intro i left hd hi h0 h1
    have hil : i < l.length := by omega
    have hq := hp l[i] (List.getElem_mem hil)
    rw [List.drop_eq_getElem_cons hil, szPairL]
    by_cases c : szM2 l[i].f0.size l[i].f1.size left < 0
    · rw [if_pos c]
      refine Ev.up (Ev.now (-1)) (fun k _ => ?_)
      simp only [laws_szPairS.l0]
      rw [if_pos (by omega), if_pos (by omega), rd_66_nat l i hil, szPair_eq _ _ left (by omega) h1 hq.1 hq.2, Option.bind_some, if_pos c]
    · rw [if_neg c]
      obtain ⟨h3, h4⟩ := szM2_ok h1 hq.1 hq.2 c
      refine Ev.up (ih (i + 1) _ (by omega) (by omega) (by omega) (by omega)) (fun k hk => ?_)
      simp only [laws_szPairS.l0]
      rw [if_pos (by omega), if_pos (by omega), rd_66_nat l i hil, szPair_eq _ _ left (by omega) h1 hq.1 hq.2, Option.bind_some, if_neg c, w64 (by omega) (by omega)]
      exact hk
theorem szPairS_ev (l : List S66) (left : Int) (h0 : -1 ≤ left) (h1 : left ≤ 1048576) (hl : l.length ≤ 9223372036854775807) (hp : ∀ p ∈ l, p.f0.size ≤ 9223372036854775807 ∧ p.f1.size ≤ 9223372036854775807) : Ev (fun k => laws_szPairS.f k l left) (szPairM l left) := by
  unfold szPairM
  by_cases c : left - (l.length : Int) < 0
  · rw [if_pos c]
    refine (Ev.now (-1)).congr (fun k => ?_)
    unfold laws_szPairS.f
    rw [w64 (by omega) (by omega), if_pos c]
  · rw [if_neg c]
    refine (szPairS_loop l (by omega) hp _ 0 _ rfl (by omega) (by omega) (by omega)).congr (fun k => ?_)
    unfold laws_szPairS.f
    rw [w64 (by omega) (by omega), if_neg c]
    rfl
theorem toStringS_loop (x0 : List ByteArray) (hn : x0.length ≤ 1000000000000) : ∀ d i : Nat, x0.length - i = d → i ≤ x0.length →
    Ev (fun k => laws_toStringS.l0 k x0 ((x0.take i).map id ++ List.replicate (x0.length - i) (⟨#[]⟩ : ByteArray)) (i : Int)) x0 := by
  intro d
  induction d with
  | zero =>
    intro i hd hi
    obtain rfl : i = x0.length := by omega
    refine Ev.up (Ev.now x0) (fun k _ => ?_)
    simp only [laws_toStringS.l0]
    rw [if_neg (by omega), copy_end]
    simp
  | succ d ih =>
    intro i hd hi
    refine Ev.up (ih (i + 1) (by omega) (by omega)) (fun k h => ?_)
    have hl := copy_len x0 id (⟨#[]⟩ : ByteArray) i hi
    have hs := copy_step x0 id (⟨#[]⟩ : ByteArray) i (by omega)
    simp only [laws_toStringS.l0]
    rw [if_pos (by omega), if_pos (by omega), if_pos (by rw [hl]; omega), rdOf_nat x0 i (by omega), Int.toNat_natCast, w64 (by omega) (by omega)]
    rw [id] at hs
    rw [hs]
    exact h
theorem toStringS_ev (l : List ByteArray) (hn : l.length ≤ 1000000000000) : Ev (fun k => laws_toStringS.f k l) l := by
  obtain ⟨K, hK⟩ := Ev.get (toStringS_loop l hn _ 0 rfl (by omega))
  refine ⟨K, fun k hk => ?_⟩
  have h := hK k hk
  show laws_toStringS.f k l = some l
  unfold laws_toStringS.f
  rw [if_pos (by omega), if_pos (by omega), Int.toNat_natCast, copy_start l id]
  exact h
theorem eqStringS_loop (l : List ByteArray) (hn : l.length ≤ 1000000000000) : ∀ d i : Nat, l.length - i = d → i ≤ l.length → Ev (fun k => laws_eqStringS.l0 k l l (i : Int)) true := by
  intro d
  induction d with
  | zero =>
    intro i hd hi
    refine Ev.up (Ev.now true) (fun k _ => ?_)
    simp only [laws_eqStringS.l0]
    rw [if_neg (by omega)]
  | succ d ih =>
    intro i hd hi
    refine Ev.up (ih (i + 1) (by omega) (by omega)) (fun k h => ?_)
    simp only [laws_eqStringS.l0]
    rw [if_pos (by omega), if_pos (by omega), if_pos (by omega), if_pos trivial, w64 (by omega) (by omega)]
    exact h
theorem eqStringS_ev (l : List ByteArray) (hn : l.length ≤ 1000000000000) : Ev (fun k => laws_eqStringS.f k l l) true := by
  obtain ⟨K, hK⟩ := Ev.get (eqStringS_loop l hn _ 0 rfl (by omega))
  refine ⟨K, fun k hk => ?_⟩
  show laws_eqStringS.f k l l = some true
  unfold laws_eqStringS.f
  rw [if_pos rfl]
  exact hK k hk
def szStrL : List ByteArray → Int → Int
  | [], left => left
  | s :: l, left => if left - s.size < 0 then -1 else szStrL l (left - s.size)
def szStrM (l : List ByteArray) (left : Int) : Int := if left - l.length < 0 then -1 else szStrL l (left - l.length)
theorem szStrL_ok : ∀ (l : List ByteArray) (left : Int), ¬ szStrL l left < 0 → szStrL l left + ((l.map ByteArray.size).sum : Nat) = left := by
  intro l
  induction l with
  | nil => intro left _; simp [szStrL]
  | cons s l ih =>
    intro left h
    rw [szStrL] at h ⊢
    split at h
    · omega
    · rename_i c
      rw [if_neg c]
      have := ih _ h
      simp only [List.map_cons, List.sum_cons]
      omega
theorem szStrM_ok {l : List ByteArray} {left : Int} (h : ¬ szStrM l left < 0) : szStrM l left + l.length + ((l.map ByteArray.size).sum : Nat) = left := by
  unfold szStrM at h ⊢
  split at h
  · omega
  · rename_i c
    rw [if_neg c]
    have := szStrL_ok l _ h
    omega
theorem szStringS_loop (l : List ByteArray) (hn : l.length ≤ 1048576) (hp : ∀ s ∈ l, s.size ≤ 9223372036854775807) : ∀ (d i : Nat) (left : Int), l.length - i = d → i ≤ l.length → 0 ≤ left → left ≤ 1048576 →
    Ev (fun k => laws_szStringS.l0 k l left (i : Int)) (szStrL (l.drop i) left) := by
  intro d
  induction d with
  | zero =>
    intro i left hd hi h0 h1
    refine Ev.up (Ev.now _) (fun k _ => ?_)
    simp only [laws_szStringS.l0]
    rw [if_neg (by omega), List.drop_eq_nil_of_le (by omega)]
    rfl
  | succ d ih =>
    intro i left hd hi h0 h1
    have hil : i < l.length := by omega
    have hq := hp l[i] (List.getElem_mem hil)
    rw [List.drop_eq_getElem_cons hil, szStrL]
    by_cases c : left - (l[i].size : Int) < 0
    · rw [if_pos c]
      refine Ev.up (Ev.now (-1)) (fun k _ => ?_)
      simp only [laws_szStringS.l0]
      rw [if_pos (by omega), if_pos (by omega), rdOf_nat l i hil, w64 (by omega) (by omega), if_pos c]
    · rw [if_neg c]
      refine Ev.up (ih (i + 1) _ (by omega) (by omega) (by omega) (by omega)) (fun k hk => ?_)
      simp only [laws_szStringS.l0]
      rw [if_pos (by omega), if_pos (by omega), rdOf_nat l i hil, w64 (by omega) (by omega), if_neg c, w64 (by omega) (by omega)]
      exact hk
theorem szStringS_ev (l : List ByteArray) (left : Int) (h0 : -1 ≤ left) (h1 : left ≤ 1048576) (hl : l.length ≤ 9223372036854775807) (hp : ∀ s ∈ l, s.size ≤ 9223372036854775807) : Ev (fun k => laws_szStringS.f k l left) (szStrM l left) := by
  unfold szStrM
  by_cases c : left - (l.length : Int) < 0
  · rw [if_pos c]
    refine (Ev.now (-1)).congr (fun k => ?_)
    unfold laws_szStringS.f
    rw [w64 (by omega) (by omega), if_pos c]
  · rw [if_neg c]
    refine (szStringS_loop l (by omega) hp _ 0 _ rfl (by omega) (by omega) (by omega)).congr (fun k => ?_)
    unfold laws_szStringS.f
    rw [w64 (by omega) (by omega), if_neg c]
    rfl
end Go.Proofs.Ytgaalomhipfgjaa.P
