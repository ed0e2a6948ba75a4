/- What is hashed: the reference's digest answers what the program's answers. No condition but bounds on lengths. -/
import Derived.Test.YthkaifddpjjmaaaDg5
import Derived.Test.YthkaifddpjjmaaaPad
import Derived.Test.YthkaifddpjjmaaaDg0
import Derived.Test.YthkaifddpjjmaaaDg1
import Derived.Test.YthkaifddpjjmaaaDg2
import Derived.Test.YthkaifddpjjmaaaDg3
import Derived.Test.YthkaifddpjjmaaaPx2
import Derived.Test.YthkaifddpjjmaaaPx3
import Derived.Test.YthkaifddpjjmaaaPx4
import Derived.Test.YthkaifddpjjmaaaPx5
import Derived.Test.YthkaifddpjjmaaaPx9
namespace Go.Proofs.Ythkaifddpjjmaaa.P
open Go.RowKit Go.Proofs.YthkaifddpjjmaaaW.PrintWords Go.Proofs.YthkaifddpjjmaaaW.PrintLast Go.Proofs.YthkaifddpjjmaaaW.PrintMore
set_option linter.unusedVariables false
set_option linter.unusedSimpArgs false
/-- A word of 32 bits. -/
def W32 (x : Int) : Prop := 0 ≤ x ∧ x < 4294967296
def Wd (l : List Int) : Prop := ∀ x ∈ l, W32 x
theorem Wd.rd {l : List Int} (h : Wd l) (i : Int) : W32 (rd l i) := by
  unfold Go.Proofs.YthkaifddpjjmaaaW.PrintWords.rd
  rw [List.getD_eq_getElem?_getD]
  by_cases hi : i.toNat < l.length
  · rw [List.getElem?_eq_getElem hi]
    exact h _ (List.getElem_mem hi)
  · rw [List.getElem?_eq_none (by omega)]
    exact ⟨by simp, by simp⟩
theorem W32.nat {x : Int} (h : W32 x) : ∃ n : Nat, x = (n : Int) ∧ n < 4294967296 := ⟨x.toNat, by have := h.1; omega, by have := h.2; omega⟩
theorem w32_mod (x : Int) : W32 (x % 4294967296) := ⟨by omega, by omega⟩
theorem ofInt32 (a : Nat) (ha : a < 4294967296) : (BitVec.ofInt 32 (a : Int)).toNat = a := by
  rw [BitVec.ofInt_natCast, BitVec.toNat_ofNat]
  exact Nat.mod_eq_of_lt (by omega)
theorem u32_wrap_small {n : Nat} (h1 : n < 4294967296) : IntKind.u32.wrap (n : Int) = n := by rw [IntKind.wrap_u32]; omega
theorem u32_and_nat (a b : Nat) (ha : a < 4294967296) (hb : b < 4294967296) : Go.bits .and .u32 (a : Int) (b : Int) = ((a &&& b : Nat) : Int) := by
  show IntKind.u32.wrap (((BitVec.ofInt 32 (a : Int)) &&& (BitVec.ofInt 32 (b : Int))).toNat : Int) = _
  rw [BitVec.toNat_and, ofInt32 a ha, ofInt32 b hb]
  have h_ : a &&& b ≤ a := Nat.and_le_left
  exact u32_wrap_small (by omega)
theorem u32_or_nat (a b : Nat) (ha : a < 4294967296) (hb : b < 4294967296) : Go.bits .or .u32 (a : Int) (b : Int) = ((a ||| b : Nat) : Int) := by
  show IntKind.u32.wrap (((BitVec.ofInt 32 (a : Int)) ||| (BitVec.ofInt 32 (b : Int))).toNat : Int) = _
  rw [BitVec.toNat_or, ofInt32 a ha, ofInt32 b hb]
  have h_ : a ||| b < 2 ^ 32 := Nat.or_lt_two_pow (by omega) (by omega)
  exact u32_wrap_small (by omega)
theorem u32_xor_nat (a b : Nat) (ha : a < 4294967296) (hb : b < 4294967296) : Go.bits .xor .u32 (a : Int) (b : Int) = ((a ^^^ b : Nat) : Int) := by
  show IntKind.u32.wrap (((BitVec.ofInt 32 (a : Int)) ^^^ (BitVec.ofInt 32 (b : Int))).toNat : Int) = _
  rw [BitVec.toNat_xor, ofInt32 a ha, ofInt32 b hb]
  have h_ : a ^^^ b < 2 ^ 32 := Nat.xor_lt_two_pow (by omega) (by omega)
  exact u32_wrap_small (by omega)
theorem and3264 {a b : Int} (ha : W32 a) (hb : W32 b) : Go.bits .and .i64 a b = Go.bits .and .u32 a b := by
  obtain ⟨m, rfl, hm⟩ := ha.nat
  obtain ⟨n, rfl, hn⟩ := hb.nat
  rw [u32_and_nat m n hm hn, i64_and_nat m n (by omega) (by omega)]
theorem or3264 {a b : Int} (ha : W32 a) (hb : W32 b) : Go.bits .or .i64 a b = Go.bits .or .u32 a b := by
  obtain ⟨m, rfl, hm⟩ := ha.nat
  obtain ⟨n, rfl, hn⟩ := hb.nat
  rw [u32_or_nat m n hm hn, i64_or_nat m n (by omega) (by omega)]
theorem xor3264 {a b : Int} (ha : W32 a) (hb : W32 b) : Go.bits .xor .i64 a b = Go.bits .xor .u32 a b := by
  obtain ⟨m, rfl, hm⟩ := ha.nat
  obtain ⟨n, rfl, hn⟩ := hb.nat
  rw [u32_xor_nat m n hm hn, i64_xor_nat m n (by omega) (by omega)]
theorem w32_and {a b : Int} (ha : W32 a) (hb : W32 b) : W32 (Go.bits .and .u32 a b) := by
  obtain ⟨m, rfl, hm⟩ := ha.nat
  obtain ⟨n, rfl, hn⟩ := hb.nat
  rw [u32_and_nat m n hm hn]
  have h_ : m &&& n ≤ m := Nat.and_le_left
  exact ⟨by omega, by omega⟩
theorem w32_or {a b : Int} (ha : W32 a) (hb : W32 b) : W32 (Go.bits .or .u32 a b) := by
  obtain ⟨m, rfl, hm⟩ := ha.nat
  obtain ⟨n, rfl, hn⟩ := hb.nat
  rw [u32_or_nat m n hm hn]
  have h_ : m ||| n < 2 ^ 32 := Nat.or_lt_two_pow (by omega) (by omega)
  exact ⟨by omega, by omega⟩
theorem w32_xor {a b : Int} (ha : W32 a) (hb : W32 b) : W32 (Go.bits .xor .u32 a b) := by
  obtain ⟨m, rfl, hm⟩ := ha.nat
  obtain ⟨n, rfl, hn⟩ := hb.nat
  rw [u32_xor_nat m n hm hn]
  have h_ : m ^^^ n < 2 ^ 32 := Nat.xor_lt_two_pow (by omega) (by omega)
  exact ⟨by omega, by omega⟩
theorem and_mask (x : Int) (h0 : 0 ≤ x) (h1 : x < 9223372036854775808) : Go.bits .and .i64 x 4294967295 = x % 4294967296 := by
  obtain ⟨n, rfl⟩ : ∃ n : Nat, x = (n : Int) := ⟨x.toNat, by omega⟩
  rw [show (4294967295 : Int) = ((4294967295 : Nat) : Int) from rfl, i64_and_nat n 4294967295 (by omega) (by omega), show (4294967295 : Nat) = 2 ^ 32 - 1 from rfl, Nat.and_two_pow_sub_one_eq_mod]
  omega
theorem max32 : IntKind.u32.max = 4294967295 := by decide
theorem w32_max : W32 IntKind.u32.max := by rw [max32]; exact ⟨by omega, by omega⟩
theorem w32_rotl {a : Int} (ha : W32 a) (n : Nat) : W32 (rotl a n) := by
  unfold rotl
  refine w32_or (w32_mod _) ?_
  have h0 := ha.1
  have h1 := ha.2
  exact ⟨Int.ediv_nonneg h0 (Int.pow_nonneg (by decide)), Int.lt_of_le_of_lt (Int.ediv_le_self _ h0) h1⟩
theorem w32_div {a : Int} (ha : W32 a) (n : Int) (hn : 0 < n) : W32 (a / n) := ⟨Int.ediv_nonneg ha.1 (by omega), Int.lt_of_le_of_lt (Int.ediv_le_self _ ha.1) ha.2⟩
theorem rd_take (l : List Int) (n j : Nat) (h : j < n) : rd (l.take n) (j : Int) = rd l (j : Int) := by
  unfold rd
  simp [List.getD_eq_getElem?_getD, List.getElem?_take, h]
theorem take_set (l : List Int) (i : Nat) (v : Int) (h : i < l.length) : (l.set i v).take (i + 1) = l.take i ++ [v] := by
  rw [List.take_succ_eq_append_getElem (by simpa using h), List.getElem_set_self, List.take_set, List.set_eq_of_length_le (by rw [List.length_take]; omega)]
theorem be4_w32 {b : List Int} (hb : By b) (i : Nat) : W32 (be4 b i) := by
  unfold be4
  exact w32_or (w32_or (w32_or (w32_mod _) (w32_mod _)) (w32_mod _)) (w32_mod _)
theorem wnext_w32 (l : List Int) (i : Nat) : W32 (wnext l i) := w32_mod _
theorem w16_wd {b : List Int} (hb : By b) : Wd (w16 b 16) := by
  intro x hx
  unfold w16 at hx
  rcases List.mem_append.1 hx with h | h
  · obtain ⟨i, _, rfl⟩ := List.mem_map.1 h
    exact be4_w32 hb i
  · rw [List.eq_of_mem_replicate h]
    exact ⟨by omega, by omega⟩
theorem Wd.set {l : List Int} (h : Wd l) (i : Nat) {v : Int} (hv : W32 v) : Wd (l.set i v) := fun x hx => by
  rcases List.mem_or_eq_of_mem_set hx with h1 | h1
  · exact h x h1
  · rw [h1]; exact hv
theorem wrow_wd {b : List Int} (hb : By b) : ∀ k, Wd (wrow b k)
  | 0 => w16_wd hb
  | k + 1 => (wrow_wd hb k).set _ (wnext_w32 _ _)
theorem t1of_w32 (v : List Int) (kk ww : Int) : W32 (t1of v kk ww) := w32_mod _
theorem tround_wd {v : List Int} (h : Wd v) (kk ww : Int) : Wd (tround v kk ww) := by
  intro x hx
  simp only [tround, List.mem_cons, List.not_mem_nil, or_false] at hx
  rcases hx with rfl | rfl | rfl | rfl | rfl | rfl | rfl | rfl
  · exact w32_mod _
  · exact h.rd _
  · exact h.rd _
  · exact h.rd _
  · exact w32_mod _
  · exact h.rd _
  · exact h.rd _
  · exact h.rd _
theorem vrow_wd {h : List Int} (hh : Wd h) (ws : List Int) : ∀ i, Wd (vrow h ws i)
  | 0 => hh
  | i + 1 => tround_wd (vrow_wd hh ws i) _ _
theorem hrow_wd {h : List Int} (hh : Wd h) (v : List Int) : ∀ i, Wd (hrow h v i)
  | 0 => hh
  | i + 1 => (hrow_wd hh v i).set _ (w32_mod _)
theorem kList_wd : Wd kList := by
  have h : kList.all (fun x => decide (0 ≤ x) && decide (x < 4294967296)) = true := by decide
  intro x hx
  have := List.all_eq_true.1 h x hx
  simp at this
  exact this
theorem h0List_wd : Wd h0List := by
  have h : h0List.all (fun x => decide (0 ≤ x) && decide (x < 4294967296)) = true := by decide
  intro x hx
  have := List.all_eq_true.1 h x hx
  simp at this
  exact this
theorem turn_eq {x : Int} (h : W32 x) (n : Nat) (h1 : 1 ≤ n) (h2 : n ≤ 31) : spec_l2Turn.f x (n : Int) = some (rotl x (32 - n)) := by
  obtain ⟨m, rfl, hm⟩ := h.nat
  have e1 : IntKind.u64.wrap (n : Int) = n := by rw [IntKind.wrap_u64]; omega
  have e2 : IntKind.u64.wrap (wrap64 (32 - (n : Int))) = ((32 - n : Nat) : Int) := by rw [w64 (by omega) (by omega), IntKind.wrap_u64]; omega
  unfold spec_l2Turn.f
  rw [e1, e2, if_pos (by omega), if_pos (by omega)]
  congr 1
  have hs : shr .i64 (m : Int) (n : Int) = ((m / 2 ^ n : Nat) : Int) := by
    unfold shr
    rw [Int.toNat_natCast, Nat.min_eq_left (by simp only [IntKind.bits]; omega)]
    simp
  have hp : (2 : Nat) ^ (32 - n) ≤ 2 ^ 31 := Nat.pow_le_pow_right (by decide) (by omega)
  have hlt : m * 2 ^ (32 - n) < 9223372036854775808 := by
    have : m * 2 ^ (32 - n) ≤ m * 2 ^ 31 := Nat.mul_le_mul_left _ hp
    omega
  have hl : shl .i64 (m : Int) ((32 - n : Nat) : Int) = ((m * 2 ^ (32 - n) : Nat) : Int) := by
    unfold shl
    rw [Int.toNat_natCast, Nat.min_eq_left (by simp only [IntKind.bits]; omega)]
    have e : (m : Int) * 2 ^ (32 - n) = ((m * 2 ^ (32 - n) : Nat) : Int) := by simp
    rw [e]
    exact i64_wrap_small (by omega) (by omega)
  have hd : m / 2 ^ n ≤ m := Nat.div_le_self _ _
  rw [hs, hl, i64_or_nat _ _ (by omega) (by omega), and_mask _ (by omega) (by
    have h_ : (m / 2 ^ n) ||| (m * 2 ^ (32 - n)) < 2 ^ 63 := Nat.or_lt_two_pow (by omega) (by omega)
    omega)]
  unfold rotl
  rw [show 32 - (32 - n) = n by omega]
  have e3 : (m : Int) * 2 ^ (32 - n) % 4294967296 = ((m * 2 ^ (32 - n) % 4294967296 : Nat) : Int) := by simp
  have e4 : (m : Int) / 2 ^ n = ((m / 2 ^ n : Nat) : Int) := by simp
  rw [e3, e4, u32_or_nat _ _ (Nat.mod_lt _ (by decide)) (by omega)]
  have e5 : ((m / 2 ^ n) ||| (m * 2 ^ (32 - n))) % 2 ^ 32 = (m / 2 ^ n) % 2 ^ 32 ||| (m * 2 ^ (32 - n)) % 2 ^ 32 := Nat.or_mod_two_pow
  have e6 : (m / 2 ^ n) % 2 ^ 32 = m / 2 ^ n := Nat.mod_eq_of_lt (by omega)
  have e7 : (2 : Nat) ^ 32 = 4294967296 := by decide
  rw [e6, e7] at e5
  rw [Nat.or_comm (m * 2 ^ (32 - n) % 4294967296), ← e5]
  generalize m / 2 ^ n ||| m * 2 ^ (32 - n) = A
  omega
theorem l2Words_l1 {b : List Int} (hb : By b) : ∀ d k : Nat, k + d = 48 → Ev (fun q => spec_l2Words.l1 q ((wrow b k).take (16 + k)) ((16 + k : Nat) : Int)) (wrow b 48) := by
  intro d
  induction d with
  | zero =>
    intro k hk
    obtain rfl : k = 48 := by omega
    refine Ev.up (Ev.now _) (fun q _ => ?_)
    simp only [spec_l2Words.l1]
    rw [if_neg (by omega), List.take_of_length_le (by rw [wrow_length]; omega)]
  | succ d ih =>
    intro k hk
    have hw := wrow_wd hb k
    have hl : ((wrow b k).take (16 + k)).length = 16 + k := by rw [List.length_take, wrow_length]; omega
    have hn : (wrow b (k + 1)).take (16 + (k + 1)) = (wrow b k).take (16 + k) ++ [wnext (wrow b k) (16 + k)] := take_set (wrow b k) (16 + k) _ (by rw [wrow_length]; omega)
    refine Ev.up (ih (k + 1) (by omega)) (fun q hq => ?_)
    rw [hn] at hq
    simp only [spec_l2Words.l1]
    have r1 := rd_take (wrow b k) (16 + k) (16 + k - 15) (by omega)
    have r2 := rd_take (wrow b k) (16 + k) (16 + k - 2) (by omega)
    have r3 := rd_take (wrow b k) (16 + k) (16 + k - 16) (by omega)
    have r4 := rd_take (wrow b k) (16 + k) (16 + k - 7) (by omega)
    have i1 : wrap64 (((16 + k : Nat) : Int) - 15) = ((16 + k - 15 : Nat) : Int) := by rw [w64 (by omega) (by omega)]; omega
    have i2 : wrap64 (((16 + k : Nat) : Int) - 2) = ((16 + k - 2 : Nat) : Int) := by rw [w64 (by omega) (by omega)]; omega
    have i3 : wrap64 (((16 + k : Nat) : Int) - 16) = ((16 + k - 16 : Nat) : Int) := by rw [w64 (by omega) (by omega)]; omega
    have i4 : wrap64 (((16 + k : Nat) : Int) - 7) = ((16 + k - 7 : Nat) : Int) := by rw [w64 (by omega) (by omega)]; omega
    have hx := hw.rd ((16 + k - 15 : Nat) : Int)
    have hy := hw.rd ((16 + k - 2 : Nat) : Int)
    have hz := hw.rd ((16 + k - 16 : Nat) : Int)
    have hv := hw.rd ((16 + k - 7 : Nat) : Int)
    rw [i1, i2, i3, i4, r1, r2, r3, r4, hl]
    have t1 : spec_l2Turn.f (rd (wrow b k) ((16 + k - 15 : Nat) : Int)) 7 = some _ := turn_eq hx 7 (by omega) (by omega)
    have t2 : spec_l2Turn.f (rd (wrow b k) ((16 + k - 15 : Nat) : Int)) 18 = some _ := turn_eq hx 18 (by omega) (by omega)
    have t3 : spec_l2Turn.f (rd (wrow b k) ((16 + k - 2 : Nat) : Int)) 17 = some _ := turn_eq hy 17 (by omega) (by omega)
    have t4 : spec_l2Turn.f (rd (wrow b k) ((16 + k - 2 : Nat) : Int)) 19 = some _ := turn_eq hy 19 (by omega) (by omega)
    rw [if_pos (by omega), if_pos (by omega), if_pos (by omega), if_pos (by omega), if_pos (by omega), t1, Option.bind_some, t2, Option.bind_some, t3, Option.bind_some, t4, Option.bind_some,
      if_pos (by omega), if_pos (by omega), if_pos (by omega), if_pos (by omega), if_pos (by omega)]
    rw [w64 (x := ((16 + k : Nat) : Int) + 1) (by omega) (by omega)]
    have q1 := w32_rotl hx 25
    have q2 := w32_rotl hx 14
    have q3 := w32_rotl hy 15
    have q4 := w32_rotl hy 13
    have q5 := w32_div hx 8 (by omega)
    have q6 := w32_div hy 1024 (by omega)
    have s1 := w32_xor (w32_xor q1 q2) q5
    have s2 := w32_xor (w32_xor q3 q4) q6
    rw [xor3264 q1 q2, xor3264 (w32_xor q1 q2) q5, xor3264 q3 q4, xor3264 (w32_xor q3 q4) q6]
    have ev : Go.bits .and .i64 (wrap64 ((wrap64 ((wrap64 ((rd (wrow b k) ((16 + k - 16 : Nat) : Int)) + (Go.bits .xor .u32 (Go.bits .xor .u32 (rotl (rd (wrow b k) ((16 + k - 15 : Nat) : Int)) 25) (rotl (rd (wrow b k) ((16 + k - 15 : Nat) : Int)) 14)) ((rd (wrow b k) ((16 + k - 15 : Nat) : Int)) / 8)))) + (rd (wrow b k) ((16 + k - 7 : Nat) : Int)))) + (Go.bits .xor .u32 (Go.bits .xor .u32 (rotl (rd (wrow b k) ((16 + k - 2 : Nat) : Int)) 15) (rotl (rd (wrow b k) ((16 + k - 2 : Nat) : Int)) 13)) ((rd (wrow b k) ((16 + k - 2 : Nat) : Int)) / 1024)))) 4294967295 = wnext (wrow b k) (16 + k) := by
      obtain ⟨a1, a2⟩ := s1
      obtain ⟨b1, b2⟩ := s2
      obtain ⟨c1, c2⟩ := hz
      obtain ⟨d1, d2⟩ := hv
      unfold wnext
      generalize Go.bits .xor .u32 (Go.bits .xor .u32 (rotl (rd (wrow b k) ((16 + k - 15 : Nat) : Int)) 25) (rotl (rd (wrow b k) ((16 + k - 15 : Nat) : Int)) 14)) ((rd (wrow b k) ((16 + k - 15 : Nat) : Int)) / 8) = S at *
      generalize Go.bits .xor .u32 (Go.bits .xor .u32 (rotl (rd (wrow b k) ((16 + k - 2 : Nat) : Int)) 15) (rotl (rd (wrow b k) ((16 + k - 2 : Nat) : Int)) 13)) ((rd (wrow b k) ((16 + k - 2 : Nat) : Int)) / 1024) = T at *
      rw [w64 (x := rd (wrow b k) ((16 + k - 16 : Nat) : Int) + S) (by omega) (by omega), w64 (x := rd (wrow b k) ((16 + k - 16 : Nat) : Int) + S + _) (by omega) (by omega), w64 (x := rd (wrow b k) ((16 + k - 16 : Nat) : Int) + S + _ + T) (by omega) (by omega), and_mask _ (by omega) (by omega)]
    rw [ev]
    exact hq
theorem l2Words_l0 {b : List Int} (hb : By b) (h64 : b.length = 64) : ∀ d i : Nat, i + d = 16 → Ev (fun q => spec_l2Words.l0 q b ((List.range i).map (be4 b)) (i : Int)) (wrow b 48) := by
  intro d
  induction d with
  | zero =>
    intro i hi
    obtain rfl : i = 16 := by omega
    refine Ev.up (l2Words_l1 hb 48 0 rfl) (fun q hq => ?_)
    simp only [spec_l2Words.l0]
    rw [if_neg (by omega)]
    have e : (wrow b 0).take (16 + 0) = (List.range 16).map (be4 b) := by
      show ((List.range 16).map (be4 b) ++ List.replicate (64 - 16) 0).take 16 = _
      rw [List.take_append_of_le_length (by simp), List.take_of_length_le (by simp)]
    rw [e] at hq
    exact hq
  | succ d ih =>
    intro i hi
    refine Ev.up (ih (i + 1) (by omega)) (fun q hq => ?_)
    simp only [spec_l2Words.l0]
    have i1 : wrap64 (4 * (i : Int)) = ((4 * i : Nat) : Int) := by rw [w64 (by omega) (by omega)]; omega
    have i2 : wrap64 (((4 * i : Nat) : Int) + 1) = ((4 * i + 1 : Nat) : Int) := by rw [w64 (by omega) (by omega)]; omega
    have i3 : wrap64 (((4 * i : Nat) : Int) + 2) = ((4 * i + 2 : Nat) : Int) := by rw [w64 (by omega) (by omega)]; omega
    have i4 : wrap64 (((4 * i : Nat) : Int) + 3) = ((4 * i + 3 : Nat) : Int) := by rw [w64 (by omega) (by omega)]; omega
    rw [i1, i2, i3, i4, if_pos (by omega), if_pos (by omega), if_pos (by omega), if_pos (by omega), if_pos (by omega), if_pos (by omega), if_pos (by omega), if_pos (by omega), if_pos (by omega), if_pos (by simp; omega)]
    rw [w64 (x := (i : Int) + 1) (by omega) (by omega)]
    have c0 := hb.rd ((4 * i : Nat) : Int)
    have c1 := hb.rd ((4 * i + 1 : Nat) : Int)
    have c2 := hb.rd ((4 * i + 2 : Nat) : Int)
    have c3 := hb.rd ((4 * i + 3 : Nat) : Int)
    have ev : Go.bits .or .i64 (Go.bits .or .i64 (Go.bits .or .i64 (wrap64 ((wrap64 (rd b ((4 * i : Nat) : Int))) * 16777216)) (wrap64 ((wrap64 (rd b ((4 * i + 1 : Nat) : Int))) * 65536))) (wrap64 ((wrap64 (rd b ((4 * i + 2 : Nat) : Int))) * 256))) (wrap64 (rd b ((4 * i + 3 : Nat) : Int))) = be4 b i := by
      unfold be4
      generalize rd b ((4 * i : Nat) : Int) = x0 at *
      generalize rd b ((4 * i + 1 : Nat) : Int) = x1 at *
      generalize rd b ((4 * i + 2 : Nat) : Int) = x2 at *
      generalize rd b ((4 * i + 3 : Nat) : Int) = x3 at *
      have e0 : wrap64 (wrap64 x0 * 16777216) = x0 % 4294967296 * 16777216 % 4294967296 := by rw [w64 (x := x0) (by omega) (by omega), w64 (by omega) (by omega)]; omega
      have e1 : wrap64 (wrap64 x1 * 65536) = x1 % 4294967296 * 65536 % 4294967296 := by rw [w64 (x := x1) (by omega) (by omega), w64 (by omega) (by omega)]; omega
      have e2 : wrap64 (wrap64 x2 * 256) = x2 % 4294967296 * 256 % 4294967296 := by rw [w64 (x := x2) (by omega) (by omega), w64 (by omega) (by omega)]; omega
      have e3 : wrap64 x3 = x3 % 4294967296 := by rw [w64 (x := x3) (by omega) (by omega)]; omega
      rw [e0, e1, e2, e3, or3264 (w32_mod _) (w32_mod _), or3264 (w32_or (w32_mod _) (w32_mod _)) (w32_mod _), or3264 (w32_or (w32_or (w32_mod _) (w32_mod _)) (w32_mod _)) (w32_mod _)]
    rw [ev]
    rw [List.range_succ, List.map_append] at hq
    exact hq
theorem l2Words_ev {b : List Int} (hb : By b) (h64 : b.length = 64) : Ev (fun k => spec_l2Words.f k b) (wrow b 48) :=
  (l2Words_l0 hb h64 16 0 rfl).congr (fun k => rfl)
theorem l2Block_l1 (h v : List Int) (h8 : h.length = 8) (v8 : v.length = 8) (hh : Wd h) (hv : Wd v) : Ev (fun q => spec_l2Block.l1 q h v 0) (hrow h v 8) := by
  obtain ⟨h0, h1, h2, h3, h4, h5, h6, h7, rfl⟩ := oct_of h8
  obtain ⟨v0, v1, v2, v3, v4, v5, v6, v7, rfl⟩ := oct_of v8
  have s : ∀ a ∈ [v0, v1, v2, v3, v4, v5, v6, v7], ∀ b ∈ [h0, h1, h2, h3, h4, h5, h6, h7], Go.bits .and .i64 (wrap64 (a + b)) 4294967295 = (b + a) % 4294967296 := by
    intro a ha b hb
    have x := hv a ha
    have y := hh b hb
    rw [w64 (by have := x.1; have := y.1; omega) (by have := x.2; have := y.2; omega), and_mask _ (by have := x.1; have := y.1; omega) (by have := x.2; have := y.2; omega), Int.add_comm]
  have st : ∀ (x : List Int) (i : Nat) (a b : Int), x.length = 8 → i < 8 → rd x (i : Int) = a → rd [h0, h1, h2, h3, h4, h5, h6, h7] (i : Int) = b → a ∈ [v0, v1, v2, v3, v4, v5, v6, v7] → b ∈ [h0, h1, h2, h3, h4, h5, h6, h7] → ∀ r,
      Ev (fun q => spec_l2Block.l1 q [h0, h1, h2, h3, h4, h5, h6, h7] (x.set i ((b + a) % 4294967296)) ((i + 1 : Nat) : Int)) r → Ev (fun q => spec_l2Block.l1 q [h0, h1, h2, h3, h4, h5, h6, h7] x (i : Int)) r := by
    intro x i a b hx hi ha hb h1 h2 r hr
    refine Ev.up hr (fun q hq => ?_)
    simp only [spec_l2Block.l1]
    rw [if_pos (by omega), if_pos (by omega), if_pos (by omega), if_pos (by simp; omega), ha, hb, s a h1 b h2, Int.toNat_natCast, w64 (by omega) (by omega)]
    exact hq
  refine st _ 0 v0 h0 rfl (by omega) rfl rfl (by simp) (by simp) _ ?_
  refine st _ 1 v1 h1 rfl (by omega) rfl rfl (by simp) (by simp) _ ?_
  refine st _ 2 v2 h2 rfl (by omega) rfl rfl (by simp) (by simp) _ ?_
  refine st _ 3 v3 h3 rfl (by omega) rfl rfl (by simp) (by simp) _ ?_
  refine st _ 4 v4 h4 rfl (by omega) rfl rfl (by simp) (by simp) _ ?_
  refine st _ 5 v5 h5 rfl (by omega) rfl rfl (by simp) (by simp) _ ?_
  refine st _ 6 v6 h6 rfl (by omega) rfl rfl (by simp) (by simp) _ ?_
  refine st _ 7 v7 h7 rfl (by omega) rfl rfl (by simp) (by simp) _ ?_
  refine Ev.up (Ev.now _) (fun q _ => ?_)
  simp only [spec_l2Block.l1]
  rw [if_neg (by decide)]
  rfl
theorem l2Block_l0 (h ws : List Int) (h8 : h.length = 8) (hh : Wd h) (hws : Wd ws) (w64l : ws.length = 64) : ∀ d i : Nat, i + d = 64 → Ev (fun q => spec_l2Block.l0 q h kList ws (vrow h ws i) (i : Int)) (hrow h (vrow h ws 64) 8) := by
  intro d
  induction d with
  | zero =>
    intro i hi
    obtain rfl : i = 64 := by omega
    refine Ev.up (l2Block_l1 h _ h8 (vrow_length h ws h8 64) hh (vrow_wd hh ws 64)) (fun q hq => ?_)
    simp only [spec_l2Block.l0]
    rw [if_neg (by omega)]
    exact hq
  | succ d ih =>
    intro i hi
    refine Ev.up (ih (i + 1) (by omega)) (fun q hq => ?_)
    have hr : vrow h ws (i + 1) = tround (vrow h ws i) (rd kList (i : Int)) (rd ws (i : Int)) := rfl
    rw [hr] at hq
    have hvw := vrow_wd hh ws i
    have hv8 := vrow_length h ws h8 i
    generalize vrow h ws i = v at *
    have hk := kList_wd.rd (i : Int)
    have hw := hws.rd (i : Int)
    have hkl : (kList.length : Int) = 64 := rfl
    have hwl : (ws.length : Int) = 64 := by omega
    have hvl : (v.length : Int) = 8 := by omega
    have e4 := hvw.rd 4
    have e0 := hvw.rd 0
    simp only [spec_l2Block.l0]
    have t1 : spec_l2Turn.f (rd v 4) 6 = some (rotl (rd v 4) 26) := turn_eq e4 6 (by omega) (by omega)
    have t2 : spec_l2Turn.f (rd v 4) 11 = some (rotl (rd v 4) 21) := turn_eq e4 11 (by omega) (by omega)
    have t3 : spec_l2Turn.f (rd v 4) 25 = some (rotl (rd v 4) 7) := turn_eq e4 25 (by omega) (by omega)
    have t4 : spec_l2Turn.f (rd v 0) 2 = some (rotl (rd v 0) 30) := turn_eq e0 2 (by omega) (by omega)
    have t5 : spec_l2Turn.f (rd v 0) 13 = some (rotl (rd v 0) 19) := turn_eq e0 13 (by omega) (by omega)
    have t6 : spec_l2Turn.f (rd v 0) 22 = some (rotl (rd v 0) 10) := turn_eq e0 22 (by omega) (by omega)
    rw [hvl, hkl, hwl, if_pos (by omega), if_pos (by omega), t1, Option.bind_some, t2, Option.bind_some, t3, Option.bind_some, if_pos (by omega), if_pos (by omega), if_pos (by omega), if_pos (by omega), if_pos (by omega), if_pos (by omega), if_pos (by omega), t4, Option.bind_some, t5, Option.bind_some, t6, Option.bind_some, if_pos (by omega), if_pos (by omega), if_pos (by omega)]
    rw [w64 (x := (i : Int) + 1) (by omega) (by omega)]
    have q1 := w32_rotl e4 26
    have q2 := w32_rotl e4 21
    have q3 := w32_rotl e4 7
    have q4 := w32_rotl e0 30
    have q5 := w32_rotl e0 19
    have q6 := w32_rotl e0 10
    have s1 := w32_xor (w32_xor q1 q2) q3
    have s0 := w32_xor (w32_xor q4 q5) q6
    have a1 := w32_and e4 (hvw.rd 5)
    have a2 := w32_xor w32_max e4
    have a3 := w32_and a2 (hvw.rd 6)
    have ch := w32_xor a1 a3
    have b1 := w32_and e0 (hvw.rd 1)
    have b2 := w32_and e0 (hvw.rd 2)
    have b3 := w32_and (hvw.rd 1) (hvw.rd 2)
    have b4 := w32_xor b1 b2
    have mj := w32_xor b4 b3
    have x1 : Go.bits .xor .i64 (Go.bits .xor .i64 (rotl (rd v 4) 26) (rotl (rd v 4) 21)) (rotl (rd v 4) 7) = Go.bits .xor .u32 (Go.bits .xor .u32 (rotl (rd v 4) 26) (rotl (rd v 4) 21)) (rotl (rd v 4) 7) := by rw [xor3264 q1 q2, xor3264 (w32_xor q1 q2) q3]
    have x2 : Go.bits .xor .i64 (Go.bits .xor .i64 (rotl (rd v 0) 30) (rotl (rd v 0) 19)) (rotl (rd v 0) 10) = Go.bits .xor .u32 (Go.bits .xor .u32 (rotl (rd v 0) 30) (rotl (rd v 0) 19)) (rotl (rd v 0) 10) := by rw [xor3264 q4 q5, xor3264 (w32_xor q4 q5) q6]
    have x3 : Go.bits .xor .i64 (Go.bits .and .i64 (rd v 4) (rd v 5)) (Go.bits .and .i64 (Go.bits .xor .i64 4294967295 (rd v 4)) (rd v 6)) = Go.bits .xor .u32 (Go.bits .and .u32 (rd v 4) (rd v 5)) (Go.bits .and .u32 (Go.bits .xor .u32 IntKind.u32.max (rd v 4)) (rd v 6)) := by
      rw [← max32, and3264 e4 (hvw.rd 5), xor3264 w32_max e4, and3264 a2 (hvw.rd 6), xor3264 a1 a3]
    have x4 : Go.bits .xor .i64 (Go.bits .xor .i64 (Go.bits .and .i64 (rd v 0) (rd v 1)) (Go.bits .and .i64 (rd v 0) (rd v 2))) (Go.bits .and .i64 (rd v 1) (rd v 2)) = Go.bits .xor .u32 (Go.bits .xor .u32 (Go.bits .and .u32 (rd v 0) (rd v 1)) (Go.bits .and .u32 (rd v 0) (rd v 2))) (Go.bits .and .u32 (rd v 1) (rd v 2)) := by
      rw [and3264 e0 (hvw.rd 1), and3264 e0 (hvw.rd 2), and3264 (hvw.rd 1) (hvw.rd 2), xor3264 b1 b2, xor3264 b4 b3]
    rw [x1, x2, x3, x4]
    have e3 := hvw.rd 3
    have e7 := hvw.rd 7
    have ht : t1of v (rd kList (i : Int)) (rd ws (i : Int)) = (rd v 7 + Go.bits .xor .u32 (Go.bits .xor .u32 (rotl (rd v 4) 26) (rotl (rd v 4) 21)) (rotl (rd v 4) 7) + Go.bits .xor .u32 (Go.bits .and .u32 (rd v 4) (rd v 5)) (Go.bits .and .u32 (Go.bits .xor .u32 IntKind.u32.max (rd v 4)) (rd v 6)) + rd kList (i : Int) + rd ws (i : Int)) % 4294967296 := by
      unfold t1of
      rw [Int.emod_add_emod]
    unfold tround at hq
    rw [ht] at hq
    generalize Go.bits .xor .u32 (Go.bits .xor .u32 (rotl (rd v 4) 26) (rotl (rd v 4) 21)) (rotl (rd v 4) 7) = S1 at *
    generalize Go.bits .xor .u32 (Go.bits .xor .u32 (rotl (rd v 0) 30) (rotl (rd v 0) 19)) (rotl (rd v 0) 10) = S0 at *
    generalize Go.bits .xor .u32 (Go.bits .and .u32 (rd v 4) (rd v 5)) (Go.bits .and .u32 (Go.bits .xor .u32 IntKind.u32.max (rd v 4)) (rd v 6)) = CH at *
    generalize Go.bits .xor .u32 (Go.bits .xor .u32 (Go.bits .and .u32 (rd v 0) (rd v 1)) (Go.bits .and .u32 (rd v 0) (rd v 2))) (Go.bits .and .u32 (rd v 1) (rd v 2)) = MJ at *
    generalize rd kList (i : Int) = kk at *
    generalize rd ws (i : Int) = ww at *
    obtain ⟨m1, m2⟩ := s1
    obtain ⟨m3, m4⟩ := s0
    obtain ⟨m5, m6⟩ := ch
    obtain ⟨m7, m8⟩ := mj
    obtain ⟨m9, m10⟩ := hk
    obtain ⟨m11, m12⟩ := hw
    obtain ⟨m13, m14⟩ := e7
    obtain ⟨m15, m16⟩ := e3
    have T : wrap64 ((wrap64 ((wrap64 ((wrap64 ((rd v 7) + S1)) + CH)) + kk)) + ww) = rd v 7 + S1 + CH + kk + ww := by
      rw [w64 (x := rd v 7 + S1) (by omega) (by omega), w64 (x := rd v 7 + S1 + CH) (by omega) (by omega), w64 (x := rd v 7 + S1 + CH + kk) (by omega) (by omega), w64 (by omega) (by omega)]
    rw [T, w64 (x := S0 + MJ) (by omega) (by omega), w64 (x := rd v 7 + S1 + CH + kk + ww + (S0 + MJ)) (by omega) (by omega), w64 (x := rd v 3 + _) (by omega) (by omega), and_mask _ (by omega) (by omega), and_mask _ (by omega) (by omega)]
    have u1 : (rd v 7 + S1 + CH + kk + ww + (S0 + MJ)) % 4294967296 = ((rd v 7 + S1 + CH + kk + ww) % 4294967296 + S0 + MJ) % 4294967296 := by omega
    have u2 : (rd v 3 + (rd v 7 + S1 + CH + kk + ww)) % 4294967296 = (rd v 3 + (rd v 7 + S1 + CH + kk + ww) % 4294967296) % 4294967296 := by omega
    rw [u1, u2]
    exact hq
theorem l2Block_ev {h b : List Int} (h8 : h.length = 8) (hh : Wd h) (hb : By b) (h64 : b.length = 64) : Ev (fun k => spec_l2Block.f k h b kList) (tblock h b) := by
  obtain ⟨K1, e1⟩ := Ev.get (l2Words_ev hb h64)
  obtain ⟨K2, e2⟩ := Ev.get (l2Block_l0 h (wrow b 48) h8 hh (wrow_wd hb 48) (wrow_length b 48) 64 0 rfl)
  refine ⟨K1 + K2, fun k hk => ?_⟩
  show spec_l2Block.f k h b kList = some (tblock h b)
  unfold spec_l2Block.f
  rw [e1 _ (by omega), Option.bind_some, Option.bind_some, if_pos (by simp; omega), List.nil_append]
  exact e2 k (by omega)
theorem tblock_wd {h b : List Int} (hh : Wd h) : Wd (tblock h b) := hrow_wd hh _ _
theorem dwords_wd (p : List Int) : ∀ k, Wd (dwords p k)
  | 0 => h0List_wd
  | k + 1 => by
    have := dwords_wd p k
    unfold dwords at this ⊢
    rw [List.range_succ, List.foldl_append]
    exact tblock_wd this
theorem dwords_succ (p : List Int) (k : Nat) : dwords p (k + 1) = tblock (dwords p k) ((p.take (64 * k + 64)).drop (64 * k)) := by
  unfold dwords
  rw [List.range_succ, List.foldl_append]
  rfl
/-- The digest of bytes. -/
def digB (l : List Int) : List Int := dbytes (dwords (padM l) ((padM l).length / 64))
def digM (l : List Int) : ByteArray := strOfNums (digB l)
theorem dbytes_by (h : List Int) : By (dbytes h) := by
  intro x hx
  unfold dbytes at hx
  obtain ⟨a, _, hb⟩ := List.mem_flatMap.1 hx
  simp only [List.mem_cons, List.not_mem_nil, or_false] at hb
  rcases hb with rfl | rfl | rfl | rfl <;> omega
theorem digB_by (l : List Int) : By (digB l) := dbytes_by _
theorem digB_length (l : List Int) : (digB l).length = 32 := by
  unfold digB
  obtain ⟨x0, x1, x2, x3, x4, x5, x6, x7, h⟩ := oct_of (dwords_length (padM l) ((padM l).length / 64))
  rw [h]
  rfl
theorem spec_Digest_l1 (h : List Int) (h8 : h.length = 8) : Ev (fun q => spec_Digest.l1 q h [] 0) (strOfNums (dbytes h)) := by
  obtain ⟨h0, h1, h2, h3, h4, h5, h6, h7, rfl⟩ := oct_of h8
  have st : ∀ (x : List Int) (i : Nat) (b : Int), x.length ≤ 40 → i < 8 → rd [h0, h1, h2, h3, h4, h5, h6, h7] (i : Int) = b → ∀ r,
      Ev (fun q => spec_Digest.l1 q [h0, h1, h2, h3, h4, h5, h6, h7] (x ++ [b / 16777216 % 256, b / 65536 % 256, b / 256 % 256, b % 256]) ((i + 1 : Nat) : Int)) r → Ev (fun q => spec_Digest.l1 q [h0, h1, h2, h3, h4, h5, h6, h7] x (i : Int)) r := by
    intro x i b hx hi hb r hr
    refine Ev.up hr (fun q hq => ?_)
    simp only [spec_Digest.l1]
    rw [if_pos (by omega), if_pos (by omega), if_pos (by simp; omega), hb, Option.bind_some, if_pos (by simp; omega), w64 (by omega) (by omega)]
    exact hq
  refine st _ 0 h0 (by simp) (by omega) rfl _ ?_
  refine st _ 1 h1 (by simp) (by omega) rfl _ ?_
  refine st _ 2 h2 (by simp) (by omega) rfl _ ?_
  refine st _ 3 h3 (by simp) (by omega) rfl _ ?_
  refine st _ 4 h4 (by simp) (by omega) rfl _ ?_
  refine st _ 5 h5 (by simp) (by omega) rfl _ ?_
  refine st _ 6 h6 (by simp) (by omega) rfl _ ?_
  refine st _ 7 h7 (by simp) (by omega) rfl _ ?_
  refine Ev.up (Ev.now _) (fun q _ => ?_)
  simp only [spec_Digest.l1]
  rw [if_neg (by decide)]
  rfl
theorem spec_Digest_l0 (p : List Int) (hp : By p) (m : Nat) (hm : p.length = 64 * m) (hl : p.length ≤ 100000000000000) : ∀ d i : Nat, i + d = m → Ev (fun q => spec_Digest.l0 q p (dwords p i) kList ((64 * i : Nat) : Int)) (strOfNums (dbytes (dwords p m))) := by
  intro d
  induction d with
  | zero =>
    intro i hi
    obtain rfl : i = m := by omega
    refine Ev.up (spec_Digest_l1 _ (dwords_length p i)) (fun q hq => ?_)
    simp only [spec_Digest.l0]
    rw [if_neg (by omega)]
    exact hq
  | succ d ih =>
    intro i hi
    have hb : By ((p.take (64 * i + 64)).drop (64 * i)) := fun x hx => hp x (List.mem_of_mem_take (List.mem_of_mem_drop hx))
    obtain ⟨K1, e1⟩ := Ev.get (l2Block_ev (dwords_length p i) (dwords_wd p i) hb (by rw [List.length_drop, List.length_take]; omega))
    obtain ⟨K2, e2⟩ := Ev.get (ih (i + 1) (by omega))
    refine Ev.up (f := fun q => if K1 + K2 ≤ q then some (strOfNums (dbytes (dwords p m))) else none) ⟨K1 + K2, fun q hq => if_pos hq⟩ (fun q hq => ?_)
    have hq' : K1 + K2 ≤ q := by
      apply Classical.byContradiction
      intro hn
      rw [if_neg hn] at hq
      cases hq
    simp only [spec_Digest.l0]
    have ew : wrap64 (((64 * i : Nat) : Int) + 64) = ((64 * i + 64 : Nat) : Int) := by rw [w64 (by omega) (by omega)]; omega
    rw [ew, if_pos (by omega), if_pos (by omega), if_pos (by omega), if_pos (by omega), Int.toNat_natCast, Int.toNat_natCast, e1 _ (by omega), Option.bind_some, ← dwords_succ]
    exact e2 q (by omega)
theorem spec_Digest_ev (l : List Int) (hb : By l) (hl : l.length ≤ 10000000000000) : Ev (fun k => spec_Digest.f k l) (digM l) := by
  have hp := padM_by hb
  have hm := padM_mod l
  have hle := padM_len_le l
  obtain ⟨K1, e1⟩ := Ev.get (spec_Padded_ev l hl)
  obtain ⟨K2, e2⟩ := Ev.get (spec_Digest_l0 (padM l) hp ((padM l).length / 64) (by omega) (by omega) _ 0 (Nat.zero_add _))
  refine ⟨K1 + K2, fun k hk => ?_⟩
  show spec_Digest.f k l = some (digM l)
  unfold spec_Digest.f
  rw [e1 _ (by omega), Option.bind_some]
  show spec_Digest.l0 k (padM l) h0List kList 0 = some (digM l)
  exact e2 k (by omega)
theorem impl_Digest_ev (l : List Int) (hl : l.length ≤ 10000000000000) : Ev (fun k => impl_Digest.f k l) (digM l) := by
  have hm := padM_mod l
  have hle := padM_len_le l
  have hlen := padM_length l
  obtain ⟨K1, e1⟩ := Ev.get (impl_Padded_ev l hl)
  refine ⟨K1, fun k hk => ?_⟩
  show impl_Digest.f k l = some (digM l)
  unfold impl_Digest.f dg_Digest.f
  rw [e1 _ hk, Option.bind_some, if_pos ⟨by omega, hm, by omega⟩]
  rfl
end Go.Proofs.Ythkaifddpjjmaaa.P
