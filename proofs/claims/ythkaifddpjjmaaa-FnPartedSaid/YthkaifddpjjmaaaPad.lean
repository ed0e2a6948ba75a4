/- What is hashed of bytes, with what is laid behind them: the program's and the reference's answer what the model answers. No condition but bounds on lengths. -/
import Derived.Test.YthkaifddpjjmaaaBytes
import Derived.Test.YthkaifddpjjmaaaPx2
import Derived.Test.YthkaifddpjjmaaaPx8
namespace Go.Proofs.Ythkaifddpjjmaaa.P
open Go.RowKit Go.Proofs.YthkaifddpjjmaaaW.PrintWords Go.Proofs.YthkaifddpjjmaaaW.PrintLast Go.Proofs.YthkaifddpjjmaaaW.PrintMore
set_option linter.unusedVariables false
set_option linter.unusedSimpArgs false
/-- The bytes of a number, i of them, the greatest first. -/
def lenM (n : Int) : Nat → List Int
  | 0 => []
  | i + 1 => (n / 2 ^ (8 * i)) % 256 :: lenM n i
/-- How many zeros are laid behind n bytes and one. -/
def zerosM (n : Nat) : Nat := (119 - n % 64) % 64
def padM (l : List Int) : List Int := l ++ [128] ++ List.replicate (zerosM l.length) 0 ++ lenM (8 * (l.length : Int)) 8
theorem lenM_length (n : Int) (i : Nat) : (lenM n i).length = i := by
  induction i with
  | zero => rfl
  | succ i ih => simp [lenM, ih]
theorem lenM_by (n : Int) (i : Nat) : By (lenM n i) := by
  induction i with
  | zero => exact By.nil
  | succ i ih => exact By.app (a := [_]) (By.one (by omega) (by omega)) ih
theorem padM_by {l : List Int} (h : By l) : By (padM l) := by
  refine By.app (By.app (By.app h (By.one (by omega) (by omega))) (fun x hx => ?_)) (lenM_by _ _)
  rw [List.eq_of_mem_replicate hx]
  omega
theorem padM_length (l : List Int) : (padM l).length = l.length + 1 + zerosM l.length + 8 := by
  simp [padM, lenM_length]
  omega
theorem padM_mod (l : List Int) : (padM l).length % 64 = 0 := by
  rw [padM_length]
  unfold zerosM
  omega
theorem padM_len_le (l : List Int) : (padM l).length ≤ l.length + 72 := by
  rw [padM_length]
  unfold zerosM
  omega
theorem replicate_snoc {α : Type} (j : Nat) (x : α) : List.replicate j x ++ [x] = List.replicate (j + 1) x := by
  rw [List.replicate_succ', ]
theorem spec_Padded_l1 (n : Int) : ∀ (i : Nat) (x : List Int), i ≤ 8 → x.length + i ≤ 100000000000000 → Ev (fun k => spec_Padded.l1 k x n (8 * (i : Int) - 8)) (x ++ lenM n i) := by
  intro i
  induction i with
  | zero =>
    intro x hi hx
    refine Ev.up (Ev.now _) (fun k _ => ?_)
    simp only [spec_Padded.l1]
    rw [if_neg (by omega), lenM, List.append_nil]
  | succ i ih =>
    intro x hi hx
    have hs : (shr .i64 n (IntKind.u64.wrap (8 * ((i + 1 : Nat) : Int) - 8))) = n / 2 ^ (8 * i) := by
      rw [IntKind.wrap_u64, show (8 * ((i + 1 : Nat) : Int) - 8) % 18446744073709551616 = ((8 * i : Nat) : Int) by omega]
      unfold shr
      rw [Int.toNat_natCast, Nat.min_eq_left (by simp only [IntKind.bits]; omega)]
    refine Ev.up ((ih (x ++ [(n / 2 ^ (8 * i)) % 256]) (by omega) (by simp; omega)).cast (q := x ++ lenM n (i + 1)) (by rw [lenM, List.append_assoc]; rfl)) (fun k hk => ?_)
    simp only [spec_Padded.l1]
    have hu : 0 ≤ IntKind.u64.wrap (8 * ((i + 1 : Nat) : Int) - 8) := by rw [IntKind.wrap_u64]; exact Int.emod_nonneg _ (by decide)
    rw [if_pos (by omega), if_pos hu, if_pos (by omega), hs, w64 (by omega) (by omega)]
    rw [show (8 * ((i + 1 : Nat) : Int) - 8 - 8) = 8 * (i : Int) - 8 by omega]
    exact hk
theorem spec_Padded_l0 (l : List Int) (hl : l.length ≤ 10000000000000) : ∀ d j : Nat, zerosM l.length - j = d → j ≤ zerosM l.length →
    Ev (fun k => spec_Padded.l0 k l (l ++ [128] ++ List.replicate j 0)) (padM l) := by
  intro d
  induction d with
  | zero =>
    intro j hd hj
    obtain rfl : j = zerosM l.length := by omega
    refine Ev.up ((spec_Padded_l1 (8 * (l.length : Int)) 8 (l ++ [128] ++ List.replicate (zerosM l.length) 0) (by omega) (by simp; unfold zerosM; omega)).cast (q := padM l) rfl) (fun k hk => ?_)
    simp only [spec_Padded.l0]
    rw [if_pos (by simp; unfold zerosM; omega), w64 (by omega) (by omega), Int.mul_comm (l.length : Int) 8]
    exact hk
  | succ d ih =>
    intro j hd hj
    refine Ev.up (ih (j + 1) (by omega) (by omega)) (fun k hk => ?_)
    simp only [spec_Padded.l0]
    rw [if_neg (by simp; unfold zerosM at hj hd; omega), if_pos (by simp; unfold zerosM at hj; omega), List.append_assoc, replicate_snoc]
    exact hk
theorem spec_Padded_ev (l : List Int) (hl : l.length ≤ 10000000000000) : Ev (fun k => spec_Padded.f k l) (padM l) := by
  refine (spec_Padded_l0 l hl _ 0 rfl (by omega)).congr (fun k => ?_)
  unfold spec_Padded.f
  simp only [Option.bind_some, List.nil_append, List.length_nil]
  rw [if_pos (by omega), if_pos (by omega)]
  simp
theorem impl_Padded_l1 (n : Int) : ∀ (i : Nat) (x : List Int), i ≤ 8 → x.length + i ≤ 100000000000000 → Ev (fun k => impl_Padded.l1 k x n ((i : Int) - 1)) (x ++ lenM n i) := by
  intro i
  induction i with
  | zero =>
    intro x hi hx
    refine Ev.up (Ev.now _) (fun k _ => ?_)
    simp only [impl_Padded.l1]
    rw [if_neg (by omega), lenM, List.append_nil]
  | succ i ih =>
    intro x hi hx
    have hs : (shr .i64 n (IntKind.u64.wrap (wrap64 (8 * (((i + 1 : Nat) : Int) - 1))))) = n / 2 ^ (8 * i) := by
      rw [w64 (by omega) (by omega), IntKind.wrap_u64, show (8 * (((i + 1 : Nat) : Int) - 1)) % 18446744073709551616 = ((8 * i : Nat) : Int) by omega]
      unfold shr
      rw [Int.toNat_natCast, Nat.min_eq_left (by simp only [IntKind.bits]; omega)]
    refine Ev.up ((ih (x ++ [(n / 2 ^ (8 * i)) % 256]) (by omega) (by simp; omega)).cast (q := x ++ lenM n (i + 1)) (by rw [lenM, List.append_assoc]; rfl)) (fun k hk => ?_)
    simp only [impl_Padded.l1]
    have hu : 0 ≤ IntKind.u64.wrap (wrap64 (8 * (((i + 1 : Nat) : Int) - 1))) := by rw [IntKind.wrap_u64]; exact Int.emod_nonneg _ (by decide)
    rw [if_pos (by omega), if_pos hu, if_pos (by omega), hs, w64 (by omega) (by omega)]
    rw [show (((i + 1 : Nat) : Int) - 1 - 1) = (i : Int) - 1 by omega]
    exact hk
theorem impl_Padded_l0 (l : List Int) (hl : l.length ≤ 10000000000000) : ∀ d j : Nat, zerosM l.length - j = d → j ≤ zerosM l.length →
    Ev (fun k => impl_Padded.l0 k l (l ++ [128] ++ List.replicate j 0)) (padM l) := by
  intro d
  induction d with
  | zero =>
    intro j hd hj
    obtain rfl : j = zerosM l.length := by omega
    refine Ev.up ((impl_Padded_l1 (8 * (l.length : Int)) 8 (l ++ [128] ++ List.replicate (zerosM l.length) 0) (by omega) (by simp; unfold zerosM; omega)).cast (q := padM l) rfl) (fun k hk => ?_)
    simp only [impl_Padded.l0]
    have hz : ((l ++ [128] ++ List.replicate (zerosM l.length) (0 : Int)).length : Int) = l.length + 1 + zerosM l.length := by simp; omega
    have hz2 : (zerosM l.length : Int) = ((119 - l.length % 64) % 64 : Nat) := rfl
    rw [hz, w64 (by omega) (by omega), Int.tmod_eq_emod_of_nonneg (by omega), if_pos (by omega), w64 (by omega) (by omega)]
    exact hk
  | succ d ih =>
    intro j hd hj
    refine Ev.up (ih (j + 1) (by omega) (by omega)) (fun k hk => ?_)
    simp only [impl_Padded.l0]
    have hz : ((l ++ [128] ++ List.replicate j (0 : Int)).length : Int) = l.length + 1 + j := by simp; omega
    have hz2 : zerosM l.length = ((119 - l.length % 64) % 64 : Nat) := rfl
    rw [hz, w64 (by omega) (by omega), Int.tmod_eq_emod_of_nonneg (by omega), if_neg (by omega), if_pos (by simp; omega), List.append_assoc, replicate_snoc]
    exact hk
theorem impl_Padded_ev (l : List Int) (hl : l.length ≤ 10000000000000) : Ev (fun k => impl_Padded.f k l) (padM l) := by
  refine (impl_Padded_l0 l hl _ 0 rfl (by omega)).congr (fun k => ?_)
  unfold impl_Padded.f slices_Clone_byte_byte.f
  rw [if_pos (by omega), Option.bind_some, if_pos (by omega)]
  simp
end Go.Proofs.Ythkaifddpjjmaaa.P
