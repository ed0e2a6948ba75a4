/- The laws' helpers over rows of pairs, of orders, of texts: copies, comparisons, marks, what is held, sizes. No condition but bounds on lengths. -/
import Derived.Test.YtoeblihennmfnaaHelp
import Derived.Test.YtoeblihennmfnaaSizes
import Derived.Test.YtoeblihennmfnaaPx0
import Derived.Test.YtoeblihennmfnaaPx16
namespace Go.Proofs.Ytoeblihennmfnaa.P
open Go.RowKit Go.Proofs.YtoeblihennmfnaaW.PrintWords Go.Proofs.YtoeblihennmfnaaW.PrintLast Go.Proofs.YtoeblihennmfnaaW.PrintMore
set_option linter.unusedVariables false
set_option linter.unusedSimpArgs false
/-- What a marked row holds: el of its first number, its next, .. -/
def marksG {α : Type} (el : Int → α) (s : Int) : Int → Nat → List α
  | _, 0 => []
  | k, n + 1 => el k :: marksG el s (k + s) n
theorem marksG_length {α : Type} (el : Int → α) (s : Int) (n : Nat) : ∀ k : Int, (marksG el s k n).length = n := by
  induction n with
  | zero => intro k; rfl
  | succ n ih => intro k; simp [marksG, ih]
theorem marksG_get {α : Type} (el : Int → α) (s : Int) (n : Nat) : ∀ (k : Int) (i : Nat), i < n → (marksG el s k n)[i]? = some (el (k + s * i)) := by
  induction n with
  | zero => intro k i h; omega
  | succ n ih =>
    intro k i h
    cases i with
    | zero => simp [marksG]
    | succ i =>
      simp only [marksG, List.getElem?_cons_succ]
      rw [ih (k + s) i (by omega), show k + s + s * (i : Int) = k + s * ((i + 1 : Nat) : Int) by rw [Int.natCast_add, Int.mul_add]; simp; omega]
theorem marksG_succ {α : Type} (el : Int → α) (s : Int) (n : Nat) : ∀ k : Int, marksG el s k (n + 1) = marksG el s k n ++ [el (k + s * n)] := by
  induction n with
  | zero => intro k; simp [marksG]
  | succ n ih =>
    intro k
    rw [marksG, ih (k + s), marksG, List.cons_append, show k + s + s * (n : Int) = k + s * ((n + 1 : Nat) : Int) by rw [Int.natCast_add, Int.mul_add]; simp; omega]
theorem marksG_set {α : Type} (el : Int → α) (s : Int) (l : List α) (k : Int) (i : Nat) (h : i < l.length) : (marksG el s k i ++ l.drop i).set i (el (k + s * i)) = marksG el s k (i + 1) ++ l.drop (i + 1) := by
  rw [List.set_append, if_neg (by rw [marksG_length]; omega), marksG_length, Nat.sub_self, List.drop_eq_getElem_cons h, List.set_cons_zero, marksG_succ, List.append_assoc]
  rfl
theorem marksG_cut {α : Type} (el : Int → α) (s : Int) (l : List α) (k : Int) (i : Nat) (h : i ≤ l.length) : (marksG el s k i ++ l.drop i).length = l.length := by
  rw [List.length_append, marksG_length, List.length_drop]
  omega
theorem rdOf_nat (l : List ByteArray) (i : Nat) (h : i < l.length) : rdOf ByteArray.empty l (i : Int) = l[i] := by
  unfold rdOf
  simp [List.getD_eq_getElem?_getD, h]
theorem size_le_sum {l : List ByteArray} {s : ByteArray} (h : s ∈ l) : s.size ≤ (l.map ByteArray.size).sum := by
  induction l with
  | nil => cases h
  | cons x l ih =>
    rcases List.mem_cons.1 h with rfl | h
    · simp
    · have := ih h; simp; omega
theorem markText_loop (n : Nat) : ∀ s : ByteArray, s.size + n ≤ 9223372036854775000 → ∃ r, Ev (fun k => laws_markText.l0 k (n : Int) s) r := by
  induction n using Nat.strongRecOn with
  | _ n ih =>
    intro s hs
    rcases Nat.eq_zero_or_pos n with rfl | hn
    · refine ⟨_, Ev.up (Ev.now ((⟨#[109]⟩ : ByteArray) ++ s)) (fun k _ => ?_)⟩
      simp only [laws_markText.l0]
      rw [if_neg (by omega), if_pos (by omega)]
    · have hq : Int.tdiv (n : Int) 10 = ((n / 10 : Nat) : Int) := by rw [Int.tdiv_eq_ediv_of_nonneg (by omega)]; rfl
      have hz : ∀ x : Int, (strOfNums [x]).size = 1 := fun x => by rw [strOfNums_size]; rfl
      obtain ⟨r, hr⟩ := ih (n / 10) (by omega) (strOfNums [(wrap64 (48 + (Int.tmod (n : Int) 10))) % 256] ++ s) (by rw [ByteArray.size_append, hz]; omega)
      refine ⟨r, Ev.up hr (fun k hk => ?_)⟩
      simp only [laws_markText.l0, Option.bind_some]
      rw [if_pos (by omega), if_pos (by rw [hz]; omega), hq, w64 (by omega) (by omega)]
      exact hk
theorem markText_some (k : Int) (h : k ≤ 1000000000000000) : ∃ r, Ev (fun n => laws_markText.f n k) r := by
  by_cases c : k ≤ 0
  · refine ⟨_, (Ev.now (⟨#[109, 48]⟩ : ByteArray)).congr (fun n => ?_)⟩
    unfold laws_markText.f
    rw [if_pos c]
  · obtain ⟨m, rfl⟩ := Int.eq_ofNat_of_zero_le (show 0 ≤ k by omega)
    obtain ⟨r, hr⟩ := markText_loop m (⟨#[]⟩ : ByteArray) (by show 0 + m ≤ _; omega)
    refine ⟨r, hr.congr (fun n => ?_)⟩
    unfold laws_markText.f
    rw [if_neg c]
instance : Nonempty ByteArray := ⟨⟨#[]⟩⟩
/-- A number's mark. -/
noncomputable def mtx (k : Int) : ByteArray := Classical.epsilon (fun r => Ev (fun n => laws_markText.f n k) r)
theorem markText_ev (k : Int) (h : k ≤ 1000000000000000) : Ev (fun n => laws_markText.f n k) (mtx k) := Classical.epsilon_spec (markText_some k h)

theorem rd_57_nat (l : List S57) (i : Nat) (h : i < l.length) : rd_T57 l (i : Int) = l[i] := by
  unfold rd_T57
  simp [List.getD_eq_getElem?_getD, h]
theorem rd_57_set (l : List S57) (i : Nat) (h : i < l.length) (a : S57) : rd_T57 (l.set i a) (i : Int) = a := by
  rw [rd_57_nat _ i (by simpa using h)]
  simp
theorem rd_100_nat (l : List S100) (i : Nat) (h : i < l.length) : rd_T100 l (i : Int) = l[i] := by
  unfold rd_T100
  simp [List.getD_eq_getElem?_getD, h]
theorem rd_100_set (l : List S100) (i : Nat) (h : i < l.length) (a : S100) : rd_T100 (l.set i a) (i : Int) = a := by
  rw [rd_100_nat _ i (by simpa using h)]
  simp
end Go.Proofs.Ytoeblihennmfnaa.P
