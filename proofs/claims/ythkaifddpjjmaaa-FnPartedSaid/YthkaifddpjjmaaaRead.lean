/- The readers of numbers and texts: the program's and the reference's answer what the model answers. No condition but bounds on lengths. -/
import Derived.Test.YthkaifddpjjmaaaBytes
namespace Go.Proofs.Ythkaifddpjjmaaa.P
open Go.RowKit Go.Proofs.YthkaifddpjjmaaaW.PrintWords Go.Proofs.YthkaifddpjjmaaaW.PrintLast Go.Proofs.YthkaifddpjjmaaaW.PrintMore
set_option linter.unusedVariables false
set_option linter.unusedSimpArgs false
theorem pow2_128 (i : Nat) : (2 : Int) ^ (7 * i) = 128 ^ i := by
  rw [Int.pow_mul]
  rfl
/-- One group laid behind the others. -/
theorem or_step (n x : Int) (i : Nat) (hi : i < 5) (hn : 0 ≤ n) (hn2 : n < 128 ^ i) (hx : 0 ≤ x) (hx2 : x < 256) :
    Go.bits .or .i64 n (shl .i64 (Go.bits .and .i64 x 127) (IntKind.u64.wrap (wrap64 (7 * (i : Int))))) = n + x % 128 * 128 ^ i := by
  obtain ⟨hp1, hp2⟩ := pow128 i hi
  rw [w64 (by omega) (by omega), i64_and127, IntKind.wrap_u64, show (7 * (i : Int)) % 18446744073709551616 = ((7 * i : Nat) : Int) by omega]
  unfold shl
  rw [Int.toNat_natCast, Nat.min_eq_left (by simp only [IntKind.bits]; omega), pow2_128]
  have hm0 : 0 ≤ x % 128 * 128 ^ i := Int.mul_nonneg (by omega) (by omega)
  have hm1 : x % 128 * 128 ^ i ≤ 127 * 128 ^ i := Int.mul_le_mul_of_nonneg_right (by omega) (by omega)
  rw [i64_wrap_small (n := x % 128 * 128 ^ i) hm0 (by omega)]
  obtain ⟨a, rfl⟩ := Int.eq_ofNat_of_zero_le hn
  obtain ⟨c, hc⟩ := Int.eq_ofNat_of_zero_le (show 0 ≤ x % 128 by omega)
  rw [hc]
  have e : ((c : Int) * 128 ^ i) = ((c * 2 ^ (7 * i) : Nat) : Int) := by
    rw [Nat.pow_mul]
    simp
  have ha : a < 2 ^ (7 * i) := by
    have h1 : ((a : Nat) : Int) < ((2 ^ (7 * i) : Nat) : Int) := by
      have h2 : ((2 ^ (7 * i) : Nat) : Int) = 128 ^ i := by rw [Nat.pow_mul]; simp
      rw [h2]
      exact hn2
    exact_mod_cast h1
  rw [hc, e] at hm1
  rw [e, i64_or_nat a (c * 2 ^ (7 * i)) (by omega) (by omega), Nat.or_comm, nat_join (7 * i) (c * 2 ^ (7 * i)) a (by simp) ha]
  omega
theorem rd_small {b : List Int} (hb : By b) (p : Int) : wrap64 (rd b p) = rd b p := by
  have := hb.rd p
  exact w64 (by omega) (by omega)
end Go.Proofs.Ythkaifddpjjmaaa.P
