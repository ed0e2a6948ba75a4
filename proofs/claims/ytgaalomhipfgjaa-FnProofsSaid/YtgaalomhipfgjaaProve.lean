/- ProveBetween: the program's and the reference's answer what the model answers; how many items there are. No condition but bounds on lengths. -/
import Derived.Test.YtgaalomhipfgjaaOks
import Derived.Test.YtgaalomhipfgjaaTree
import Derived.Test.YtgaalomhipfgjaaCols
import Derived.Test.YtgaalomhipfgjaaSorted
import Derived.Test.YtgaalomhipfgjaaGood
import Derived.Test.YtgaalomhipfgjaaPx0
import Derived.Test.YtgaalomhipfgjaaPx16
import Derived.Test.YtgaalomhipfgjaaPx18
namespace Go.Proofs.Ytgaalomhipfgjaa.P
open Go.RowKit Go.Proofs.YtgaalomhipfgjaaW.PrintWords Go.Proofs.YtgaalomhipfgjaaW.PrintLast Go.Proofs.YtgaalomhipfgjaaW.PrintMore
set_option linter.unusedVariables false
set_option linter.unusedSimpArgs false
/-- The first from i on, of d, at which P does not hold. -/
def whileM (P : Nat → Bool) : Nat → Nat → Nat
  | 0, i => i
  | d + 1, i => if P i = true then whileM P d (i + 1) else i
theorem whileM_spec (P : Nat → Bool) : ∀ d i : Nat, i ≤ whileM P d i ∧ whileM P d i ≤ i + d ∧ (∀ j, i ≤ j → j < whileM P d i → P j = true) ∧ (whileM P d i < i + d → P (whileM P d i) = false) := by
  intro d
  induction d with
  | zero => intro i; unfold whileM; exact ⟨by omega, by omega, fun j h1 h2 => by omega, fun h => by omega⟩
  | succ d ih =>
    intro i
    unfold whileM
    by_cases c : P i = true
    · rw [if_pos c]
      obtain ⟨h1, h2, h3, h4⟩ := ih (i + 1)
      refine ⟨by omega, by omega, fun j hj hj2 => ?_, fun h => h4 (by omega)⟩
      by_cases e : j = i
      · rw [e]; exact c
      · exact h3 j (by omega) hj2
    · rw [if_neg c]
      exact ⟨by omega, by omega, fun j h1 h2 => by omega, fun _ => by simpa using c⟩
def lessP (l : List S26) (lo : ByteArray) (i : Nat) : Bool := Op.bytesLess (rd_T26 l (i : Int)).f0.toList lo.toList
def btwP (l : List S26) (lo hi : ByteArray) (i : Nat) : Bool := btwB lo hi (rd_T26 l (i : Int))
def fromM (l : List S26) (lo : ByteArray) : Nat := whileM (lessP l lo) l.length 0
def toM (l : List S26) (lo hi : ByteArray) : Nat := whileM (btwP l lo hi) (l.length - fromM l lo) (fromM l lo)
theorem fromM_le (l : List S26) (lo : ByteArray) : fromM l lo ≤ l.length := by
  have := (whileM_spec (lessP l lo) l.length 0).2.1
  unfold fromM
  omega
theorem toM_le (l : List S26) (lo hi : ByteArray) : fromM l lo ≤ toM l lo hi ∧ toM l lo hi ≤ l.length := by
  have h1 := fromM_le l lo
  have h2 := whileM_spec (btwP l lo hi) (l.length - fromM l lo) (fromM l lo)
  unfold toM
  omega
def itemM (l : List S26) (i : Nat) : S63 := ⟨⟨(rd_T26 l (i : Int)).f0, (rd_T26 l (i : Int)).f1⟩, pathM l i⟩
def itemsM (l : List S26) : Nat → Nat → List S63
  | 0, _ => []
  | d + 1, i => itemM l i :: itemsM l d (i + 1)
theorem itemsM_len (l : List S26) : ∀ d i : Nat, (itemsM l d i).length = d := by
  intro d
  induction d with
  | zero => intro i; rfl
  | succ d ih => intro i; unfold itemsM; rw [List.length_cons, ih]
theorem itemsM_get (l : List S26) : ∀ d i j : Nat, j < d → (itemsM l d i)[j]? = some (itemM l (i + j)) := by
  intro d
  induction d with
  | zero => intro i j h; omega
  | succ d ih =>
    intro i j h
    unfold itemsM
    cases j with
    | zero => rfl
    | succ j => rw [List.getElem?_cons_succ, ih (i + 1) j (by omega), show i + 1 + j = i + (j + 1) by omega]
def begM (l : List S26) (lo : ByteArray) : Nat := fromM l lo - 1
def endM (l : List S26) (lo hi : ByteArray) : Nat := min (toM l lo hi + 1) l.length
def proveM (l : List S26) (lo hi : ByteArray) : Int × Int × List S63 :=
  if pokM l l.length 0 = true then ((l.length : Int), (if begM l lo < endM l lo hi then (begM l lo : Int) else 0), itemsM l (endM l lo hi - begM l lo) (begM l lo)) else (0, 0, [])
/-- What the loops of the reference's lead to. -/
def resM (l : List S26) (x t : Nat) : Int × Int × List S63 :=
  ((l.length : Int), (if x - 1 < min (t + 1) l.length then ((x - 1 : Nat) : Int) else 0), itemsM l (min (t + 1) l.length - (x - 1)) (x - 1))
theorem impl_Prove_l2 (l : List S26) (hl : l.length ≤ 1000) (hf : Few l) (a b : Nat) (hb : b ≤ l.length) (N F : Int) : ∀ (d i : Nat) (acc : List S63), i + d = b ∨ (d = 0 ∧ b ≤ i) → i ≤ 2000 → acc.length ≤ i →
    Ev (fun k => impl_ProveBetween.l2 k l (a : Int) (b : Int) (i : Int) N F acc) (if 0 < (acc ++ itemsM l d i).length then (N, (a : Int), acc ++ itemsM l d i) else (N, F, acc ++ itemsM l d i)) := by
  intro d
  induction d with
  | zero =>
    intro i acc hi hi2 hacc
    refine Ev.up (Ev.now _) (fun k _ => ?_)
    simp only [impl_ProveBetween.l2]
    rw [if_neg (by omega)]
    unfold itemsM
    rw [List.append_nil]
    by_cases c : 0 < acc.length
    · rw [if_pos c, if_pos (by omega)]
    · rw [if_neg c, if_neg (by omega)]
  | succ d ih =>
    intro i acc hi hi2 hacc
    obtain ⟨K1, e1⟩ := Ev.get (impl_pathOf_ev _ l i rfl (by omega) (by omega) hf)
    obtain ⟨K2, e2⟩ := Ev.get (ih (i + 1) (acc ++ [itemM l i]) (by omega) (by omega) (by simp; omega))
    refine ⟨K1 + K2 + 1, fun k hk => ?_⟩
    obtain ⟨k, rfl⟩ : ∃ j, k = j + 1 := ⟨k - 1, by omega⟩
    show impl_ProveBetween.l2 (k + 1) _ _ _ _ _ _ _ = _
    simp only [impl_ProveBetween.l2]
    have hx := e2 k (by omega)
    rw [List.append_assoc, List.singleton_append] at hx
    rw [if_pos (by omega), if_pos (by omega), if_pos (by omega), e1 _ (by omega), Option.bind_some, if_pos (by omega), w64 (by omega) (by omega)]
    exact hx
theorem impl_Prove_l1 (l : List S26) (hl : l.length ≤ 1000) (hf : Few l) (lo hi : ByteArray) (x : Nat) (hx : x ≤ l.length) : ∀ (d i : Nat), i + d = l.length → x ≤ i →
    Ev (fun k => impl_ProveBetween.l1 k l lo hi (x : Int) (i : Int)) (resM l x (whileM (btwP l lo hi) d i)) := by
  have fin : ∀ t : Nat, x ≤ t → t ≤ l.length → Ev (fun k => impl_ProveBetween.j3 k l (x : Int) (t : Int)) (resM l x t) := by
    intro t h1 h2
    have e := impl_Prove_l2 l hl hf (x - 1) (min (t + 1) l.length) (by omega) (l.length : Int) 0 (min (t + 1) l.length - (x - 1)) (x - 1) [] (by omega) (by omega) (by simp)
    rw [List.nil_append, itemsM_len] at e
    have e2 : Ev (fun k => impl_ProveBetween.l2 k l ((x - 1 : Nat) : Int) ((min (t + 1) l.length : Nat) : Int) ((x - 1 : Nat) : Int) (l.length : Int) 0 []) (resM l x t) := e.cast (by
      unfold resM
      by_cases c : x - 1 < min (t + 1) l.length
      · rw [if_pos c, if_pos (by omega)]
      · rw [if_neg c, if_neg (by omega)])
    have emx : mx (wrap64 ((x : Int) - 1)) 0 = ((x - 1 : Nat) : Int) := by rw [w64 (by omega) (by omega)]; unfold mx; split <;> omega
    have emn : mn (wrap64 ((t : Int) + 1)) (l.length : Int) = ((min (t + 1) l.length : Nat) : Int) := by rw [w64 (by omega) (by omega)]; unfold mn; split <;> omega
    refine Ev.up e2 (fun k hk => ?_)
    simp only [impl_ProveBetween.j3]
    rw [emx, emn]
    exact hk
  intro d
  induction d with
  | zero =>
    intro i hid hxi
    refine Ev.up (fin i hxi (by omega)) (fun k hk => ?_)
    simp only [impl_ProveBetween.l1]
    rw [if_neg (by omega)]
    exact hk
  | succ d ih =>
    intro i hid hxi
    by_cases c : btwP l lo hi i = true
    · have hw : whileM (btwP l lo hi) (d + 1) i = whileM (btwP l lo hi) d (i + 1) := by rw [whileM, if_pos c]
      rw [hw]
      refine Ev.up (ih (i + 1) (by omega) (by omega)) (fun k hk => ?_)
      simp only [impl_ProveBetween.l1]
      have c' : btwB lo hi (rd_T26 l (i : Int)) = true := c
      rw [if_pos (by omega), if_pos (by omega), impl_isBetween_eq, Option.bind_some, if_pos c', w64 (by omega) (by omega)]
      exact hk
    · have hw : whileM (btwP l lo hi) (d + 1) i = i := by rw [whileM, if_neg c]
      rw [hw]
      refine Ev.up (fin i hxi (by omega)) (fun k hk => ?_)
      simp only [impl_ProveBetween.l1]
      have c' : ¬ btwB lo hi (rd_T26 l (i : Int)) = true := c
      rw [if_pos (by omega), if_pos (by omega), impl_isBetween_eq, Option.bind_some, if_neg c']
      exact hk
theorem impl_Prove_l0 (l : List S26) (hl : l.length ≤ 1000) (hf : Few l) (lo hi : ByteArray) : ∀ (d i : Nat), i + d = l.length →
    Ev (fun k => impl_ProveBetween.l0 k l lo hi (i : Int)) (resM l (whileM (lessP l lo) d i) (whileM (btwP l lo hi) (l.length - whileM (lessP l lo) d i) (whileM (lessP l lo) d i))) := by
  intro d
  induction d with
  | zero =>
    intro i hid
    refine Ev.up (Ev.up (impl_Prove_l1 l hl hf lo hi i (by omega) (l.length - i) i (by omega) (by omega)) (g := fun k => impl_ProveBetween.j1 k l lo hi (i : Int)) (fun k hk => ?_)) (fun k hk => ?_)
    · simp only [impl_ProveBetween.j1]
      exact hk
    · simp only [impl_ProveBetween.l0]
      rw [if_neg (by omega)]
      exact hk
  | succ d ih =>
    intro i hid
    by_cases c : lessP l lo i = true
    · have hw : whileM (lessP l lo) (d + 1) i = whileM (lessP l lo) d (i + 1) := by rw [whileM, if_pos c]
      rw [hw]
      refine Ev.up (ih (i + 1) (by omega)) (fun k hk => ?_)
      simp only [impl_ProveBetween.l0]
      have c' : Op.bytesLess (rd_T26 l (i : Int)).f0.toList lo.toList = true := c
      rw [if_pos (by omega), if_pos (by omega), if_pos c', w64 (by omega) (by omega)]
      exact hk
    · have hw : whileM (lessP l lo) (d + 1) i = i := by rw [whileM, if_neg c]
      rw [hw]
      refine Ev.up (Ev.up (impl_Prove_l1 l hl hf lo hi i (by omega) (l.length - i) i (by omega) (by omega)) (g := fun k => impl_ProveBetween.j1 k l lo hi (i : Int)) (fun k hk => ?_)) (fun k hk => ?_)
      · simp only [impl_ProveBetween.j1]
        exact hk
      · simp only [impl_ProveBetween.l0]
        have c' : ¬ Op.bytesLess (rd_T26 l (i : Int)).f0.toList lo.toList = true := c
        rw [if_pos (by omega), if_pos (by omega), if_neg c']
        exact hk
theorem impl_ProveBetween_ev (l : List S26) (hl : l.length ≤ 1000) (hf : Few l) (lo hi : ByteArray) : Ev (fun k => impl_ProveBetween.f k l lo hi) (proveM l lo hi) := by
  obtain ⟨K1, e1⟩ := Ev.get (impl_PairsOk_ev l (by omega) (fun p hp => by have := (hf p hp).1; omega))
  obtain ⟨K2, e2⟩ := Ev.get (impl_Prove_l0 l hl hf lo hi l.length 0 (by omega))
  unfold proveM
  by_cases c : pokM l l.length 0 = true
  · refine ⟨K1 + K2, fun k hk => ?_⟩
    show impl_ProveBetween.f k l lo hi = _
    unfold impl_ProveBetween.f
    rw [e1 _ (by omega), Option.bind_some, if_pos c, if_pos c]
    have hx := e2 k (by omega)
    exact hx
  · refine ⟨K1, fun k hk => ?_⟩
    show impl_ProveBetween.f k l lo hi = _
    unfold impl_ProveBetween.f
    rw [e1 _ (by omega), Option.bind_some, if_neg c, if_neg c]
theorem spec_Prove_l2 (l : List S26) (hl : l.length ≤ 1000) (hf : Few l) (b : Nat) (hb : b ≤ l.length) (N F : Int) : ∀ (d i : Nat) (acc : List S63), i + d = b ∨ (d = 0 ∧ b ≤ i) → i ≤ 2000 → acc.length ≤ i →
    Ev (fun k => spec_ProveBetween.l2 k l (b : Int) (i : Int) N F acc) (N, F, acc ++ itemsM l d i) := by
  intro d
  induction d with
  | zero =>
    intro i acc hi hi2 hacc
    refine Ev.up (Ev.now _) (fun k _ => ?_)
    simp only [spec_ProveBetween.l2]
    rw [if_neg (by omega)]
    unfold itemsM
    rw [List.append_nil]
  | succ d ih =>
    intro i acc hi hi2 hacc
    obtain ⟨K1, e1⟩ := Ev.get (spec_l4Path_ev _ l i rfl (by omega) (by omega) hf)
    obtain ⟨K2, e2⟩ := Ev.get (ih (i + 1) (acc ++ [itemM l i]) (by omega) (by omega) (by simp; omega))
    refine ⟨K1 + K2 + 1, fun k hk => ?_⟩
    obtain ⟨k, rfl⟩ : ∃ j, k = j + 1 := ⟨k - 1, by omega⟩
    show spec_ProveBetween.l2 (k + 1) _ _ _ _ _ _ = _
    simp only [spec_ProveBetween.l2]
    have hx := e2 k (by omega)
    rw [List.append_assoc, List.singleton_append] at hx
    rw [if_pos (by omega), if_pos (by omega), if_pos (by omega), e1 _ (by omega), Option.bind_some, if_pos (by omega), w64 (by omega) (by omega)]
    exact hx
theorem spec_Prove_l1 (l : List S26) (hl : l.length ≤ 1000) (hf : Few l) (lo hi : ByteArray) (x : Nat) (hx : x ≤ l.length) : ∀ (d i : Nat), i + d = l.length → x ≤ i →
    Ev (fun k => spec_ProveBetween.l1 k l lo hi (x : Int) (i : Int) (l.length : Int) 0) (resM l x (whileM (btwP l lo hi) d i)) := by
  have j6 : ∀ (a b : Nat) (F : Int), a ≤ l.length → b ≤ l.length → Ev (fun k => spec_ProveBetween.j6 k l (a : Int) (b : Int) (l.length : Int) F) ((l.length : Int), F, itemsM l (b - a) a) := by
    intro a b F ha hb
    have e := spec_Prove_l2 l hl hf b hb (l.length : Int) F (b - a) a [] (by omega) (by omega) (by simp)
    rw [List.nil_append] at e
    refine Ev.up e (fun k hk => ?_)
    simp only [spec_ProveBetween.j6]
    exact hk
  have j5 : ∀ (a b : Nat), a ≤ l.length → b ≤ l.length → Ev (fun k => spec_ProveBetween.j5 k l (a : Int) (b : Int) (l.length : Int) 0) ((l.length : Int), (if a < b then (a : Int) else 0), itemsM l (b - a) a) := by
    intro a b ha hb
    by_cases c : a < b
    · rw [if_pos c]
      refine Ev.up (j6 a b (a : Int) ha hb) (fun k hk => ?_)
      simp only [spec_ProveBetween.j5]
      rw [if_pos (by omega)]
      exact hk
    · rw [if_neg c]
      refine Ev.up (j6 a b 0 ha hb) (fun k hk => ?_)
      simp only [spec_ProveBetween.j5]
      rw [if_neg (by omega)]
      exact hk
  have j4 : ∀ (a t : Nat), a ≤ l.length → t ≤ l.length → Ev (fun k => spec_ProveBetween.j4 k l (a : Int) (t : Int) (l.length : Int) 0) ((l.length : Int), (if a < min (t + 1) l.length then (a : Int) else 0), itemsM l (min (t + 1) l.length - a) a) := by
    intro a t ha ht
    refine Ev.up (j5 a (min (t + 1) l.length) ha (by omega)) (fun k hk => ?_)
    simp only [spec_ProveBetween.j4]
    by_cases c : t < l.length
    · rw [if_pos (by omega), w64 (by omega) (by omega), show (t : Int) + 1 = ((min (t + 1) l.length : Nat) : Int) by omega]
      exact hk
    · rw [if_neg (by omega), show (t : Int) = ((min (t + 1) l.length : Nat) : Int) by omega]
      exact hk
  have fin : ∀ t : Nat, x ≤ t → t ≤ l.length → Ev (fun k => spec_ProveBetween.j3 k l (x : Int) (t : Int) (l.length : Int) 0) (resM l x t) := by
    intro t h1 h2
    refine Ev.up (j4 (x - 1) t (by omega) h2) (fun k hk => ?_)
    simp only [spec_ProveBetween.j3]
    by_cases c : (x : Int) > 0
    · rw [if_pos c, w64 (by omega) (by omega), show (x : Int) - 1 = ((x - 1 : Nat) : Int) by omega]
      exact hk
    · rw [if_neg c]
      have e : ((x - 1 : Nat) : Int) = (x : Int) := by omega
      rw [e] at hk
      rw [hk]
      try (unfold resM; rw [e])
  intro d
  induction d with
  | zero =>
    intro i hid hxi
    refine Ev.up (fin i hxi (by omega)) (fun k hk => ?_)
    simp only [spec_ProveBetween.l1]
    rw [if_neg (by omega)]
    exact hk
  | succ d ih =>
    intro i hid hxi
    by_cases c : btwP l lo hi i = true
    · have hw : whileM (btwP l lo hi) (d + 1) i = whileM (btwP l lo hi) d (i + 1) := by rw [whileM, if_pos c]
      rw [hw]
      refine Ev.up (ih (i + 1) (by omega) (by omega)) (fun k hk => ?_)
      simp only [spec_ProveBetween.l1]
      have c' : btwB lo hi (rd_T26 l (i : Int)) = true := c
      rw [if_pos (by omega), if_pos (by omega), spec_l3In_eq, Option.bind_some, if_pos c', w64 (by omega) (by omega)]
      exact hk
    · have hw : whileM (btwP l lo hi) (d + 1) i = i := by rw [whileM, if_neg c]
      rw [hw]
      refine Ev.up (fin i hxi (by omega)) (fun k hk => ?_)
      simp only [spec_ProveBetween.l1]
      have c' : ¬ btwB lo hi (rd_T26 l (i : Int)) = true := c
      rw [if_pos (by omega), if_pos (by omega), spec_l3In_eq, Option.bind_some, if_neg c']
      exact hk
theorem spec_Prove_l0 (l : List S26) (hl : l.length ≤ 1000) (hf : Few l) (lo hi : ByteArray) : ∀ (d i : Nat), i + d = l.length →
    Ev (fun k => spec_ProveBetween.l0 k l lo hi (i : Int) (l.length : Int) 0) (resM l (whileM (lessP l lo) d i) (whileM (btwP l lo hi) (l.length - whileM (lessP l lo) d i) (whileM (lessP l lo) d i))) := by
  intro d
  induction d with
  | zero =>
    intro i hid
    refine Ev.up (Ev.up (spec_Prove_l1 l hl hf lo hi i (by omega) (l.length - i) i (by omega) (by omega)) (g := fun k => spec_ProveBetween.j1 k l lo hi (i : Int) (l.length : Int) 0) (fun k hk => ?_)) (fun k hk => ?_)
    · simp only [spec_ProveBetween.j1]
      exact hk
    · simp only [spec_ProveBetween.l0]
      rw [if_neg (by omega)]
      exact hk
  | succ d ih =>
    intro i hid
    by_cases c : lessP l lo i = true
    · have hw : whileM (lessP l lo) (d + 1) i = whileM (lessP l lo) d (i + 1) := by rw [whileM, if_pos c]
      rw [hw]
      refine Ev.up (ih (i + 1) (by omega)) (fun k hk => ?_)
      simp only [spec_ProveBetween.l0]
      have c' : Op.bytesLess (rd_T26 l (i : Int)).f0.toList lo.toList = true := c
      rw [if_pos (by omega), if_pos (by omega), if_pos c', w64 (by omega) (by omega)]
      exact hk
    · have hw : whileM (lessP l lo) (d + 1) i = i := by rw [whileM, if_neg c]
      rw [hw]
      refine Ev.up (Ev.up (spec_Prove_l1 l hl hf lo hi i (by omega) (l.length - i) i (by omega) (by omega)) (g := fun k => spec_ProveBetween.j1 k l lo hi (i : Int) (l.length : Int) 0) (fun k hk => ?_)) (fun k hk => ?_)
      · simp only [spec_ProveBetween.j1]
        exact hk
      · simp only [spec_ProveBetween.l0]
        have c' : ¬ Op.bytesLess (rd_T26 l (i : Int)).f0.toList lo.toList = true := c
        rw [if_pos (by omega), if_pos (by omega), if_neg c']
        exact hk
theorem spec_ProveBetween_ev (l : List S26) (hl : l.length ≤ 1000) (hf : Few l) (lo hi : ByteArray) : Ev (fun k => spec_ProveBetween.f k l lo hi) (proveM l lo hi) := by
  obtain ⟨K1, e1⟩ := Ev.get (spec_PairsOk_ev l (by omega) (fun p hp => by have := (hf p hp).1; omega))
  obtain ⟨K2, e2⟩ := Ev.get (spec_Prove_l0 l hl hf lo hi l.length 0 (by omega))
  unfold proveM
  by_cases c : pokM l l.length 0 = true
  · refine ⟨K1 + K2, fun k hk => ?_⟩
    show spec_ProveBetween.f k l lo hi = _
    unfold spec_ProveBetween.f
    rw [e1 _ (by omega), Option.bind_some, if_pos c, if_pos c]
    have hx := e2 k (by omega)
    exact hx
  · refine ⟨K1, fun k hk => ?_⟩
    show spec_ProveBetween.f k l lo hi = _
    unfold spec_ProveBetween.f
    rw [e1 _ (by omega), Option.bind_some, if_neg c, if_neg c]
/-! ### how many are between -/
theorem filter_len_of {α : Type} (P : α → Bool) (l : List α) (f t : Nat) (hft : f ≤ t) (ht : t ≤ l.length) (h1 : ∀ j (hj : j < l.length), j < f → P l[j] = false) (h2 : ∀ j (hj : j < l.length), f ≤ j → j < t → P l[j] = true) (h3 : ∀ j (hj : j < l.length), t ≤ j → P l[j] = false) :
    (l.filter P).length = t - f := by
  have e : l = l.take f ++ ((l.drop f).take (t - f) ++ l.drop t) := by
    have e1 : l.drop t = (l.drop f).drop (t - f) := by rw [List.drop_drop]; congr 1; omega
    rw [e1, List.take_append_drop, List.take_append_drop]
  have f1 : (l.take f).filter P = [] := by
    rw [List.filter_eq_nil_iff]
    intro x hx
    obtain ⟨j, hj, rfl⟩ := List.getElem_of_mem hx
    rw [List.length_take] at hj
    rw [List.getElem_take, h1 j (by omega) (by omega)]
    simp
  have f2 : ((l.drop f).take (t - f)).filter P = (l.drop f).take (t - f) := by
    rw [List.filter_eq_self]
    intro x hx
    obtain ⟨j, hj, rfl⟩ := List.getElem_of_mem hx
    rw [List.length_take, List.length_drop] at hj
    rw [List.getElem_take, List.getElem_drop]
    exact h2 (f + j) (by omega) (by omega) (by omega)
  have f3 : (l.drop t).filter P = [] := by
    rw [List.filter_eq_nil_iff]
    intro x hx
    obtain ⟨j, hj, rfl⟩ := List.getElem_of_mem hx
    rw [List.length_drop] at hj
    rw [List.getElem_drop, h3 (t + j) (by omega) (by omega)]
    simp
  rw [e, List.filter_append, List.filter_append, f1, f2, f3, List.nil_append, List.append_nil, List.length_take, List.length_drop]
  omega
theorem between_len {l : List S26} (hok : pokM l l.length 0 = true) {lo hi : ByteArray} (hlh : hi.toList = [] ∨ ¬ Op.bytesLess hi.toList lo.toList = true) :
    (l.filter (btwB lo hi)).length = toM l lo hi - fromM l lo := by
  obtain ⟨a1, a2, a3, a4⟩ := whileM_spec (lessP l lo) l.length 0
  obtain ⟨b1, b2, b3, b4⟩ := whileM_spec (btwP l lo hi) (l.length - fromM l lo) (fromM l lo)
  have hle := fromM_le l lo
  have hpw := pokM_pairwise l hok
  have less : ∀ i j (hi : i < l.length) (hj : j < l.length), i < j → Op.bytesLess l[i].f0.toList l[j].f0.toList = true := fun i j hi hj hij => List.pairwise_iff_getElem.1 hpw i j hi hj hij
  have lP : ∀ j (hj : j < l.length), lessP l lo j = Op.bytesLess l[j].f0.toList lo.toList := fun j hj => by unfold lessP; rw [rdP_get l hj]
  have bP : ∀ j (hj : j < l.length), btwP l lo hi j = btwB lo hi l[j] := fun j hj => by unfold btwP; rw [rdP_get l hj]
  refine filter_len_of (btwB lo hi) l (fromM l lo) (toM l lo hi) b1 (by unfold toM; omega) (fun j hj h => ?_) (fun j hj h h' => ?_) (fun j hj h => ?_)
  · have := a3 j (by omega) h
    rw [lP j hj] at this
    unfold btwB
    rw [this]
    rfl
  · have := b3 j h h'
    rw [bP j hj] at this
    exact this
  · have ht : toM l lo hi < l.length := by omega
    have n1 : btwB lo hi l[toM l lo hi] = false := by
      have := b4 (by unfold toM at ht; omega)
      have e : btwP l lo hi (toM l lo hi) = false := this
      rw [bP _ ht] at e
      exact e
    -- the one at the end is not less than lo
    have n2 : ¬ Op.bytesLess l[toM l lo hi].f0.toList lo.toList = true := by
      intro hc
      have hfl : fromM l lo < l.length := by have := b1; unfold toM at ht; omega
      have h0 : lessP l lo (fromM l lo) = false := a4 (by unfold fromM at hfl; omega)
      rw [lP _ hfl] at h0
      by_cases e : fromM l lo = toM l lo hi
      · simp only [e] at h0
        rw [h0] at hc
        cases hc
      · have := less_trans (less (fromM l lo) (toM l lo hi) hfl ht (by have := b1; unfold toM; unfold toM at e; omega)) hc
        rw [h0] at this
        cases this
    unfold btwB at n1 ⊢
    have n2' : Op.bytesLess l[toM l lo hi].f0.toList lo.toList = false := by simpa using n2
    rw [n2'] at n1
    simp only [Bool.not_false, Bool.true_and, Bool.or_eq_false_iff, decide_eq_false_iff_not] at n1
    obtain ⟨n3, n4⟩ := n1
    have n5 : Op.bytesLess l[j].f0.toList hi.toList = false := by
      by_cases e : j = toM l lo hi
      · subst e; exact n4
      · cases hc : Op.bytesLess l[j].f0.toList hi.toList with
        | false => rfl
        | true =>
          have := less_trans (less (toM l lo hi) j ht hj (by omega)) hc
          rw [n4] at this
          cases this
    rw [n5, Bool.or_false, decide_eq_false n3, Bool.and_false]
end Go.Proofs.Ytgaalomhipfgjaa.P
