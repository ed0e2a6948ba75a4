/- The laws' helpers: copies, comparisons, marks and what is held, each by what it answers. No condition but bounds on lengths. -/
import Derived.Test.YtamkjoflkkffhaaPlain
import Derived.Test.YtamkjoflkkffhaaPx39
import Derived.Test.YtamkjoflkkffhaaPx42
namespace Go.Proofs.Ytamkjoflkkffhaa.P
open Go.RowKit Go.Proofs.YtamkjoflkkffhaaW.PrintWords Go.Proofs.YtamkjoflkkffhaaW.PrintLast Go.Proofs.YtamkjoflkkffhaaW.PrintMore
set_option linter.unusedVariables false
set_option linter.unusedSimpArgs false
theorem toByteS_loop (x0 : List Int) (hn : x0.length ≤ 140737488355328) : ∀ d i : Nat, x0.length - i = d → i ≤ x0.length →
    Ev (fun k => laws_toByteS.l0 k x0 ((x0.take i).map id ++ List.replicate (x0.length - i) 0) (i : Int)) x0 := by
  intro d
  induction d with
  | zero =>
    intro i hd hi
    obtain rfl : i = x0.length := by omega
    refine Ev.up (Ev.now x0) (fun k _ => ?_)
    simp only [laws_toByteS.l0]
    rw [if_neg (by omega), copy_end]
    simp
  | succ d ih =>
    intro i hd hi
    refine Ev.up (ih (i + 1) (by omega) (by omega)) (fun k h => ?_)
    have hl := copy_len x0 id (0 : Int) i hi
    have hs := copy_step x0 id (0 : Int) i (by omega)
    simp only [laws_toByteS.l0]
    rw [if_pos (by omega), if_pos (by omega), if_pos (by rw [hl]; omega), rd_nat x0 i (by omega), Int.toNat_natCast, w64 (by omega) (by omega)]
    rw [id] at hs
    rw [hs]
    exact h
theorem toByteS_ev (l : List Int) (hn : l.length ≤ 140737488355328) : Ev (fun k => laws_toByteS.f k l) l := by
  obtain ⟨K, hK⟩ := Ev.get (toByteS_loop l hn _ 0 rfl (by omega))
  refine ⟨K, fun k hk => ?_⟩
  have h := hK k hk
  show laws_toByteS.f k l = some l
  unfold laws_toByteS.f
  rw [if_pos (by omega), if_pos (by omega), Int.toNat_natCast, copy_start l id]
  exact h
theorem eqByteS_loop (l : List Int) (hn : l.length ≤ 140737488355328) : ∀ d i : Nat, l.length - i = d → i ≤ l.length → Ev (fun k => laws_eqByteS.l0 k l l (i : Int)) true := by
  intro d
  induction d with
  | zero =>
    intro i hd hi
    refine Ev.up (Ev.now true) (fun k _ => ?_)
    simp only [laws_eqByteS.l0]
    rw [if_neg (by omega)]
  | succ d ih =>
    intro i hd hi
    refine Ev.up (ih (i + 1) (by omega) (by omega)) (fun k h => ?_)
    simp only [laws_eqByteS.l0]
    rw [if_pos (by omega), if_pos (by omega), if_pos (by omega), if_pos trivial, w64 (by omega) (by omega)]
    exact h
theorem eqByteS_ev (l : List Int) (hn : l.length ≤ 140737488355328) : Ev (fun k => laws_eqByteS.f k l l) true := by
  obtain ⟨K, hK⟩ := Ev.get (eqByteS_loop l hn _ 0 rfl (by omega))
  refine ⟨K, fun k hk => ?_⟩
  show laws_eqByteS.f k l l = some true
  unfold laws_eqByteS.f
  rw [if_pos rfl]
  exact hK k hk
/-- What a marked row holds. -/
def marksB (k : Int) : Nat → List Int
  | 0 => []
  | n + 1 => (k % 256) :: marksB (k + 1) n
theorem marksB_length (n : Nat) : ∀ k : Int, (marksB k n).length = n := by
  induction n with
  | zero => intro k; rfl
  | succ n ih => intro k; simp [marksB, ih]
theorem marksB_get (n : Nat) : ∀ (k : Int) (i : Nat), i < n → (marksB k n)[i]? = some ((k + i) % 256) := by
  induction n with
  | zero => intro k i h; omega
  | succ n ih =>
    intro k i h
    cases i with
    | zero => simp [marksB]
    | succ i =>
      simp only [marksB, List.getElem?_cons_succ]
      rw [ih (k + 1) i (by omega)]
      congr 2
      omega
theorem marksB_succ (n : Nat) : ∀ k : Int, marksB k (n + 1) = marksB k n ++ [(k + n) % 256] := by
  induction n with
  | zero => intro k; simp [marksB]
  | succ n ih =>
    intro k
    rw [marksB, ih (k + 1), marksB, List.cons_append]
    congr 4
    omega
theorem markByteS_loop (l : List Int) (k0 : Int) (h0 : 0 ≤ k0) (hk0 : k0 ≤ 1000000000000000) (hn : l.length ≤ 140737488355328) : ∀ d i : Nat, l.length - i = d → i ≤ l.length →
    Ev (fun k => laws_markByteS.l0 k (marksB k0 i ++ l.drop i) (k0 + i) (i : Int)) (k0 + l.length, marksB k0 l.length) := by
  intro d
  induction d with
  | zero =>
    intro i hd hi
    obtain rfl : i = l.length := by omega
    refine Ev.up (Ev.now (k0 + l.length, marksB k0 l.length)) (fun k _ => ?_)
    simp only [laws_markByteS.l0]
    rw [if_neg (by simp [marksB_length]), List.drop_length, List.append_nil]
  | succ d ih =>
    intro i hd hi
    refine Ev.up (ih (i + 1) (by omega) (by omega)) (fun k h => ?_)
    have hl : (marksB k0 i ++ l.drop i).length = l.length := by rw [List.length_append, marksB_length, List.length_drop]; omega
    have hs : (marksB k0 i ++ l.drop i).set i ((k0 + i) % 256) = marksB k0 (i + 1) ++ l.drop (i + 1) := by
      rw [List.set_append, if_neg (by rw [marksB_length]; omega), marksB_length, Nat.sub_self, List.drop_eq_getElem_cons (show i < l.length by omega), List.set_cons_zero, marksB_succ, List.append_assoc]
      rfl
    simp only [laws_markByteS.l0]
    rw [if_pos (by rw [hl]; omega), if_pos (by omega), Int.toNat_natCast, hs, w64 (by omega) (by omega), w64 (by omega) (by omega)]
    have e : (k0 + (i : Int) + 1) = k0 + ((i + 1 : Nat) : Int) := by omega
    have e2 : ((i : Int) + 1) = ((i + 1 : Nat) : Int) := by omega
    rw [e, e2]
    exact h
theorem markByteS_ev (l : List Int) (k0 : Int) (h0 : 0 ≤ k0) (hk0 : k0 ≤ 1000000000000000) (hn : l.length ≤ 140737488355328) : Ev (fun k => laws_markByteS.f k l k0) (k0 + l.length, marksB k0 l.length) := by
  obtain ⟨K, hK⟩ := Ev.get (markByteS_loop l k0 h0 hk0 hn _ 0 rfl (by omega))
  refine ⟨K, fun k hk => ?_⟩
  have h := hK k hk
  simp only [marksB, List.nil_append, List.drop_zero, Int.natCast_zero, Int.add_zero] at h
  unfold laws_markByteS.f
  exact h
end Go.Proofs.Ytamkjoflkkffhaa.P
