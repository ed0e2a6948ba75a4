/- The readers of numbers and texts: the program's and the reference's answer what the model answers. No condition but bounds on lengths. -/
import Derived.Test.YthkaifddpjjmaaaBytes
import Derived.Test.YthkaifddpjjmaaaPx3
import Derived.Test.YthkaifddpjjmaaaPx4
namespace Go.Proofs.Ythkaifddpjjmaaa.P
open Go.RowKit Go.Proofs.YthkaifddpjjmaaaW.PrintWords Go.Proofs.YthkaifddpjjmaaaW.PrintLast Go.Proofs.YthkaifddpjjmaaaW.PrintMore
set_option linter.unusedVariables false
set_option linter.unusedSimpArgs false
theorem pow2_128 (i : Nat) : (2 : Int) ^ (7 * i) = 128 ^ i := by
  rw [Int.pow_mul]
  rfl
/-- One group laid behind the others. -/
theorem or_step (n x : Int) (i : Nat) (hi : i < 5) (hn : 0 ≤ n) (hn2 : n < 128 ^ i) (hx : 0 ≤ x) (hx2 : x < 256) :
    Go.bits .or .i64 n (shl .i64 (Go.bits .and .i64 x 127) (IntKind.u64.wrap (wrap64 (7 * (i : Int))))) = n + x % 128 * 128 ^ i := by
  obtain ⟨hp1, hp2⟩ := pow128 i hi
  rw [w64 (by omega) (by omega), i64_and127, IntKind.wrap_u64, show (7 * (i : Int)) % 18446744073709551616 = ((7 * i : Nat) : Int) by omega]
  unfold shl
  rw [Int.toNat_natCast, Nat.min_eq_left (by simp only [IntKind.bits]; omega), pow2_128]
  have hm0 : 0 ≤ x % 128 * 128 ^ i := Int.mul_nonneg (by omega) (by omega)
  have hm1 : x % 128 * 128 ^ i ≤ 127 * 128 ^ i := Int.mul_le_mul_of_nonneg_right (by omega) (by omega)
  rw [i64_wrap_small (n := x % 128 * 128 ^ i) hm0 (by omega)]
  obtain ⟨a, rfl⟩ := Int.eq_ofNat_of_zero_le hn
  obtain ⟨c, hc⟩ := Int.eq_ofNat_of_zero_le (show 0 ≤ x % 128 by omega)
  rw [hc]
  have e : ((c : Int) * 128 ^ i) = ((c * 2 ^ (7 * i) : Nat) : Int) := by
    rw [Nat.pow_mul]
    simp
  have ha : a < 2 ^ (7 * i) := by
    have h1 : ((a : Nat) : Int) < ((2 ^ (7 * i) : Nat) : Int) := by
      have h2 : ((2 ^ (7 * i) : Nat) : Int) = 128 ^ i := by rw [Nat.pow_mul]; simp
      rw [h2]
      exact hn2
    exact_mod_cast h1
  rw [hc, e] at hm1
  rw [e, i64_or_nat a (c * 2 ^ (7 * i)) (by omega) (by omega), Nat.or_comm, nat_join (7 * i) (c * 2 ^ (7 * i)) a (by simp) ha]
  omega
theorem rd_small {b : List Int} (hb : By b) (p : Int) : wrap64 (rd b p) = rd b p := by
  have := hb.rd p
  exact w64 (by omega) (by omega)
theorem impl_GetNum_loop (b : List Int) (hb : By b) (hl : b.length ≤ 140737488355328) : ∀ (f p : Nat) (n : Int) (i : Nat), f + i = 5 → 0 ≤ n → n < 128 ^ i →
    Ev (fun k => impl_GetNum.l0 k b (p : Int) n (i : Int)) (gnM b f p n i) := by
  intro f
  induction f with
  | zero =>
    intro p n i hf h0 h1
    refine Ev.up (Ev.up (g := fun k => impl_GetNum.j1 k b (p : Int) n (i : Int) false) (Ev.now (0, 0, false)) (fun k _ => ?_)) (fun k hk => ?_)
    · simp only [impl_GetNum.j1]
      rw [if_neg (by simp)]
      rfl
    · simp only [impl_GetNum.l0]
      rw [if_neg (by omega)]
      exact hk
  | succ f ih =>
    intro p n i hf h0 h1
    have hr := hb.rd (p : Int)
    obtain ⟨hp1, hp2⟩ := pow128 i (by omega)
    by_cases c1 : p < b.length
    · have hd : decide ((p : Int) < (b.length : Int)) = true := decide_eq_true (by omega)
      have hs := or_step n (rd b (p : Int)) i (by omega) h0 h1 hr.1 hr.2
      have hu : 0 ≤ (IntKind.u64.wrap (wrap64 (7 * (i : Int)))) := by rw [w64 (by omega) (by omega), IntKind.wrap_u64]; omega
      have hm : 0 ≤ rd b (p : Int) % 128 * 128 ^ i := Int.mul_nonneg (by omega) (by omega)
      by_cases c2 : rd b (p : Int) < 128
      · refine Ev.up (Ev.up (g := fun k => impl_GetNum.j1 k b (p : Int) n (i : Int) true) (Ev.now (gnM b (f + 1) p n i)) (fun k _ => ?_)) (fun k hk => ?_)
        · unfold gnM
          rw [if_pos c1, if_pos c2]
          simp only [impl_GetNum.j1, rd_small hb, hs]
          rw [if_pos trivial, if_pos (by omega), if_pos (by omega), if_pos hu, if_pos c2]
          by_cases c3 : rd b (p : Int) = 0
          · rw [if_pos c3]
            by_cases c4 : (i : Int) > 0
            · rw [if_pos c4, if_pos (.inl ⟨c3, by omega⟩)]
            · rw [if_neg c4]
              by_cases c5 : n + rd b (p : Int) % 128 * 128 ^ i > 1000000000
              · rw [if_pos c5, if_pos (.inr c5)]
              · rw [if_neg c5, if_neg (by rintro (⟨_, h⟩ | h) <;> omega), w64 (by omega) (by omega)]
          · rw [if_neg c3]
            by_cases c5 : n + rd b (p : Int) % 128 * 128 ^ i > 1000000000
            · rw [if_pos c5, if_pos (.inr c5)]
            · rw [if_neg c5, if_neg (by rintro (⟨h, _⟩ | h) <;> omega), w64 (by omega) (by omega)]
        · simp only [impl_GetNum.l0]
          rw [if_pos (by omega), hd]
          exact hk
      · have hm2 : n + rd b (p : Int) % 128 * 128 ^ i < 128 ^ (i + 1) := by
          have h3 : rd b (p : Int) % 128 * 128 ^ i ≤ 127 * 128 ^ i := Int.mul_le_mul_of_nonneg_right (by omega) (by omega)
          rw [Int.pow_succ]
          omega
        have hz := ih (p + 1) _ (i + 1) (by omega) (by omega) hm2
        refine Ev.up (Ev.up (g := fun k => impl_GetNum.j1 k b (p : Int) n (i : Int) true) (hz.cast ?_) (fun k hk => ?_)) (fun k hk => ?_)
        · rw [gnM, if_pos c1, if_neg c2]
        · simp only [impl_GetNum.j1, rd_small hb, hs]
          rw [if_pos trivial, if_pos (by omega), if_pos (by omega), if_pos hu, if_neg c2, w64 (by omega) (by omega), w64 (by omega) (by omega)]
          exact hk
        · simp only [impl_GetNum.l0]
          rw [if_pos (by omega), hd]
          exact hk
    · refine Ev.up (Ev.up (g := fun k => impl_GetNum.j1 k b (p : Int) n (i : Int) false) (Ev.now (gnM b (f + 1) p n i)) (fun k _ => ?_)) (fun k hk => ?_)
      · rw [gnM, if_neg c1]
        simp only [impl_GetNum.j1]
        rw [if_neg (by simp)]
      · simp only [impl_GetNum.l0]
        rw [if_pos (by omega), decide_eq_false (show ¬ ((p : Int) < (b.length : Int)) by omega)]
        exact hk
theorem impl_GetNum_ev (b : List Int) (hb : By b) (hl : b.length ≤ 140737488355328) (a : Int) (ha : -9223372036854775808 ≤ a ∧ a ≤ 9223372036854775807) : Ev (fun k => impl_GetNum.f k b a) (getNumM b a) := by
  by_cases c : 0 ≤ a ∧ a < b.length
  · obtain ⟨p, rfl⟩ := Int.eq_ofNat_of_zero_le c.1
    refine (impl_GetNum_loop b hb hl 5 p 0 0 rfl (by omega) (by decide)).congr (fun k => ?_) |>.cast ?_
    · unfold impl_GetNum.f impl_inRange.f
      rw [if_pos (by omega), Option.bind_some, w64 (by omega) (by omega), decide_eq_true (by omega), if_pos rfl]
      rfl
    · unfold getNumM
      rw [if_pos (by omega), Int.toNat_natCast]
  · have e : getNumM b a = (0, 0, false) := by
      unfold getNumM
      by_cases c0 : 0 ≤ a
      · rw [if_pos c0, gnM, if_neg (by omega)]
      · rw [if_neg c0]
    rw [e]
    refine (Ev.now _).congr (fun k => ?_)
    unfold impl_GetNum.f impl_inRange.f
    rw [w64 (x := (b.length : Int) - 1) (by omega) (by omega)]
    by_cases c0 : a ≥ 0
    · rw [if_pos c0, Option.bind_some, decide_eq_false (by omega), if_neg (by simp)]
    · rw [if_neg c0, Option.bind_some, if_neg (by simp)]
theorem impl_GetText_ev (b : List Int) (hb : By b) (hl : b.length ≤ 140737488355328) (a : Int) (ha : -9223372036854775808 ≤ a ∧ a ≤ 9223372036854775807) : Ev (fun k => impl_GetText.f k b a) (getTextM b a) := by
  obtain ⟨K, hK⟩ := Ev.get (impl_GetNum_ev b hb hl a ha)
  refine ⟨K, fun k hk => ?_⟩
  show impl_GetText.f k b a = _
  unfold impl_GetText.f getTextM
  rw [hK k hk, Option.bind_some]
  by_cases c : (getNumM b a).2.2 = true
  · have ho := getNumM_ok hb c
    rw [if_pos c, if_pos c, w64 (by omega) (by omega), w64 (by omega) (by omega)]
    by_cases c2 : (getNumM b a).1 > b.length - (getNumM b a).2.1
    · rw [if_pos c2, if_pos c2]
    · rw [if_neg c2, if_neg c2, if_pos (by omega), if_pos (by omega), if_pos (by omega)]
  · rw [if_neg c, if_neg c]
end Go.Proofs.Ythkaifddpjjmaaa.P
