/- What is hashed: the reference's digest answers what the program's answers. No condition but bounds on lengths. -/
import Derived.Test.YthkaifddpjjmaaaDg5
import Derived.Test.YthkaifddpjjmaaaPad
import Derived.Test.YthkaifddpjjmaaaDg0
import Derived.Test.YthkaifddpjjmaaaDg1
import Derived.Test.YthkaifddpjjmaaaDg2
import Derived.Test.YthkaifddpjjmaaaDg3
import Derived.Test.YthkaifddpjjmaaaPx2
namespace Go.Proofs.Ythkaifddpjjmaaa.P
open Go.RowKit Go.Proofs.YthkaifddpjjmaaaW.PrintWords Go.Proofs.YthkaifddpjjmaaaW.PrintLast Go.Proofs.YthkaifddpjjmaaaW.PrintMore
set_option linter.unusedVariables false
set_option linter.unusedSimpArgs false
/-- A word of 32 bits. -/
def W32 (x : Int) : Prop := 0 ≤ x ∧ x < 4294967296
def Wd (l : List Int) : Prop := ∀ x ∈ l, W32 x
theorem Wd.rd {l : List Int} (h : Wd l) (i : Int) : W32 (rd l i) := by
  unfold Go.Proofs.YthkaifddpjjmaaaW.PrintWords.rd
  rw [List.getD_eq_getElem?_getD]
  by_cases hi : i.toNat < l.length
  · rw [List.getElem?_eq_getElem hi]
    exact h _ (List.getElem_mem hi)
  · rw [List.getElem?_eq_none (by omega)]
    exact ⟨by simp, by simp⟩
theorem W32.nat {x : Int} (h : W32 x) : ∃ n : Nat, x = (n : Int) ∧ n < 4294967296 := ⟨x.toNat, by have := h.1; omega, by have := h.2; omega⟩
theorem w32_mod (x : Int) : W32 (x % 4294967296) := ⟨by omega, by omega⟩
theorem ofInt32 (a : Nat) (ha : a < 4294967296) : (BitVec.ofInt 32 (a : Int)).toNat = a := by
  rw [BitVec.ofInt_natCast, BitVec.toNat_ofNat]
  exact Nat.mod_eq_of_lt (by omega)
theorem u32_wrap_small {n : Nat} (h1 : n < 4294967296) : IntKind.u32.wrap (n : Int) = n := by rw [IntKind.wrap_u32]; omega
theorem u32_and_nat (a b : Nat) (ha : a < 4294967296) (hb : b < 4294967296) : Go.bits .and .u32 (a : Int) (b : Int) = ((a &&& b : Nat) : Int) := by
  show IntKind.u32.wrap (((BitVec.ofInt 32 (a : Int)) &&& (BitVec.ofInt 32 (b : Int))).toNat : Int) = _
  rw [BitVec.toNat_and, ofInt32 a ha, ofInt32 b hb]
  have h_ : a &&& b ≤ a := Nat.and_le_left
  exact u32_wrap_small (by omega)
theorem u32_or_nat (a b : Nat) (ha : a < 4294967296) (hb : b < 4294967296) : Go.bits .or .u32 (a : Int) (b : Int) = ((a ||| b : Nat) : Int) := by
  show IntKind.u32.wrap (((BitVec.ofInt 32 (a : Int)) ||| (BitVec.ofInt 32 (b : Int))).toNat : Int) = _
  rw [BitVec.toNat_or, ofInt32 a ha, ofInt32 b hb]
  have h_ : a ||| b < 2 ^ 32 := Nat.or_lt_two_pow (by omega) (by omega)
  exact u32_wrap_small (by omega)
theorem u32_xor_nat (a b : Nat) (ha : a < 4294967296) (hb : b < 4294967296) : Go.bits .xor .u32 (a : Int) (b : Int) = ((a ^^^ b : Nat) : Int) := by
  show IntKind.u32.wrap (((BitVec.ofInt 32 (a : Int)) ^^^ (BitVec.ofInt 32 (b : Int))).toNat : Int) = _
  rw [BitVec.toNat_xor, ofInt32 a ha, ofInt32 b hb]
  have h_ : a ^^^ b < 2 ^ 32 := Nat.xor_lt_two_pow (by omega) (by omega)
  exact u32_wrap_small (by omega)
theorem and3264 {a b : Int} (ha : W32 a) (hb : W32 b) : Go.bits .and .i64 a b = Go.bits .and .u32 a b := by
  obtain ⟨m, rfl, hm⟩ := ha.nat
  obtain ⟨n, rfl, hn⟩ := hb.nat
  rw [u32_and_nat m n hm hn, i64_and_nat m n (by omega) (by omega)]
theorem or3264 {a b : Int} (ha : W32 a) (hb : W32 b) : Go.bits .or .i64 a b = Go.bits .or .u32 a b := by
  obtain ⟨m, rfl, hm⟩ := ha.nat
  obtain ⟨n, rfl, hn⟩ := hb.nat
  rw [u32_or_nat m n hm hn, i64_or_nat m n (by omega) (by omega)]
theorem xor3264 {a b : Int} (ha : W32 a) (hb : W32 b) : Go.bits .xor .i64 a b = Go.bits .xor .u32 a b := by
  obtain ⟨m, rfl, hm⟩ := ha.nat
  obtain ⟨n, rfl, hn⟩ := hb.nat
  rw [u32_xor_nat m n hm hn, i64_xor_nat m n (by omega) (by omega)]
theorem w32_and {a b : Int} (ha : W32 a) (hb : W32 b) : W32 (Go.bits .and .u32 a b) := by
  obtain ⟨m, rfl, hm⟩ := ha.nat
  obtain ⟨n, rfl, hn⟩ := hb.nat
  rw [u32_and_nat m n hm hn]
  have h_ : m &&& n ≤ m := Nat.and_le_left
  exact ⟨by omega, by omega⟩
theorem w32_or {a b : Int} (ha : W32 a) (hb : W32 b) : W32 (Go.bits .or .u32 a b) := by
  obtain ⟨m, rfl, hm⟩ := ha.nat
  obtain ⟨n, rfl, hn⟩ := hb.nat
  rw [u32_or_nat m n hm hn]
  have h_ : m ||| n < 2 ^ 32 := Nat.or_lt_two_pow (by omega) (by omega)
  exact ⟨by omega, by omega⟩
theorem w32_xor {a b : Int} (ha : W32 a) (hb : W32 b) : W32 (Go.bits .xor .u32 a b) := by
  obtain ⟨m, rfl, hm⟩ := ha.nat
  obtain ⟨n, rfl, hn⟩ := hb.nat
  rw [u32_xor_nat m n hm hn]
  have h_ : m ^^^ n < 2 ^ 32 := Nat.xor_lt_two_pow (by omega) (by omega)
  exact ⟨by omega, by omega⟩
theorem and_mask (x : Int) (h0 : 0 ≤ x) (h1 : x < 9223372036854775808) : Go.bits .and .i64 x 4294967295 = x % 4294967296 := by
  obtain ⟨n, rfl⟩ : ∃ n : Nat, x = (n : Int) := ⟨x.toNat, by omega⟩
  rw [show (4294967295 : Int) = ((4294967295 : Nat) : Int) from rfl, i64_and_nat n 4294967295 (by omega) (by omega), show (4294967295 : Nat) = 2 ^ 32 - 1 from rfl, Nat.and_two_pow_sub_one_eq_mod]
  omega
theorem max32 : IntKind.u32.max = 4294967295 := by decide
theorem w32_max : W32 IntKind.u32.max := by rw [max32]; exact ⟨by omega, by omega⟩
theorem w32_rotl {a : Int} (ha : W32 a) (n : Nat) : W32 (rotl a n) := by
  unfold rotl
  refine w32_or (w32_mod _) ?_
  have h0 := ha.1
  have h1 := ha.2
  exact ⟨Int.ediv_nonneg h0 (Int.pow_nonneg (by decide)), Int.lt_of_le_of_lt (Int.ediv_le_self _ h0) h1⟩
theorem w32_div {a : Int} (ha : W32 a) (n : Int) (hn : 0 < n) : W32 (a / n) := ⟨Int.ediv_nonneg ha.1 (by omega), Int.lt_of_le_of_lt (Int.ediv_le_self _ ha.1) ha.2⟩
theorem rd_take (l : List Int) (n j : Nat) (h : j < n) : rd (l.take n) (j : Int) = rd l (j : Int) := by
  unfold rd
  simp [List.getD_eq_getElem?_getD, List.getElem?_take, h]
theorem take_set (l : List Int) (i : Nat) (v : Int) (h : i < l.length) : (l.set i v).take (i + 1) = l.take i ++ [v] := by
  rw [List.take_succ_eq_append_getElem (by simpa using h), List.getElem_set_self, List.take_set, List.set_eq_of_length_le (by rw [List.length_take]; omega)]
theorem be4_w32 {b : List Int} (hb : By b) (i : Nat) : W32 (be4 b i) := by
  unfold be4
  exact w32_or (w32_or (w32_or (w32_mod _) (w32_mod _)) (w32_mod _)) (w32_mod _)
theorem wnext_w32 (l : List Int) (i : Nat) : W32 (wnext l i) := w32_mod _
theorem w16_wd {b : List Int} (hb : By b) : Wd (w16 b 16) := by
  intro x hx
  unfold w16 at hx
  rcases List.mem_append.1 hx with h | h
  · obtain ⟨i, _, rfl⟩ := List.mem_map.1 h
    exact be4_w32 hb i
  · rw [List.eq_of_mem_replicate h]
    exact ⟨by omega, by omega⟩
theorem Wd.set {l : List Int} (h : Wd l) (i : Nat) {v : Int} (hv : W32 v) : Wd (l.set i v) := fun x hx => by
  rcases List.mem_or_eq_of_mem_set hx with h1 | h1
  · exact h x h1
  · rw [h1]; exact hv
theorem wrow_wd {b : List Int} (hb : By b) : ∀ k, Wd (wrow b k)
  | 0 => w16_wd hb
  | k + 1 => (wrow_wd hb k).set _ (wnext_w32 _ _)
theorem t1of_w32 (v : List Int) (kk ww : Int) : W32 (t1of v kk ww) := w32_mod _
theorem tround_wd {v : List Int} (h : Wd v) (kk ww : Int) : Wd (tround v kk ww) := by
  intro x hx
  simp only [tround, List.mem_cons, List.not_mem_nil, or_false] at hx
  rcases hx with rfl | rfl | rfl | rfl | rfl | rfl | rfl | rfl
  · exact w32_mod _
  · exact h.rd _
  · exact h.rd _
  · exact h.rd _
  · exact w32_mod _
  · exact h.rd _
  · exact h.rd _
  · exact h.rd _
theorem vrow_wd {h : List Int} (hh : Wd h) (ws : List Int) : ∀ i, Wd (vrow h ws i)
  | 0 => hh
  | i + 1 => tround_wd (vrow_wd hh ws i) _ _
theorem hrow_wd {h : List Int} (hh : Wd h) (v : List Int) : ∀ i, Wd (hrow h v i)
  | 0 => hh
  | i + 1 => (hrow_wd hh v i).set _ (w32_mod _)
theorem kList_wd : Wd kList := by
  have h : kList.all (fun x => decide (0 ≤ x) && decide (x < 4294967296)) = true := by decide
  intro x hx
  have := List.all_eq_true.1 h x hx
  simp at this
  exact this
theorem h0List_wd : Wd h0List := by
  have h : h0List.all (fun x => decide (0 ≤ x) && decide (x < 4294967296)) = true := by decide
  intro x hx
  have := List.all_eq_true.1 h x hx
  simp at this
  exact this
theorem tblock_wd {h b : List Int} (hh : Wd h) : Wd (tblock h b) := hrow_wd hh _ _
theorem dwords_wd (p : List Int) : ∀ k, Wd (dwords p k)
  | 0 => h0List_wd
  | k + 1 => by
    have := dwords_wd p k
    unfold dwords at this ⊢
    rw [List.range_succ, List.foldl_append]
    exact tblock_wd this
theorem dwords_succ (p : List Int) (k : Nat) : dwords p (k + 1) = tblock (dwords p k) ((p.take (64 * k + 64)).drop (64 * k)) := by
  unfold dwords
  rw [List.range_succ, List.foldl_append]
  rfl
/-- The digest of bytes. -/
def digB (l : List Int) : List Int := dbytes (dwords (padM l) ((padM l).length / 64))
def digM (l : List Int) : ByteArray := strOfNums (digB l)
theorem dbytes_by (h : List Int) : By (dbytes h) := by
  intro x hx
  unfold dbytes at hx
  obtain ⟨a, _, hb⟩ := List.mem_flatMap.1 hx
  simp only [List.mem_cons, List.not_mem_nil, or_false] at hb
  rcases hb with rfl | rfl | rfl | rfl <;> omega
theorem digB_by (l : List Int) : By (digB l) := dbytes_by _
theorem digB_length (l : List Int) : (digB l).length = 32 := by
  unfold digB
  obtain ⟨x0, x1, x2, x3, x4, x5, x6, x7, h⟩ := oct_of (dwords_length (padM l) ((padM l).length / 64))
  rw [h]
  rfl
theorem impl_Digest_ev (l : List Int) (hl : l.length ≤ 10000000000000) : Ev (fun k => impl_Digest.f k l) (digM l) := by
  have hm := padM_mod l
  have hle := padM_len_le l
  have hlen := padM_length l
  obtain ⟨K1, e1⟩ := Ev.get (impl_Padded_ev l hl)
  refine ⟨K1, fun k hk => ?_⟩
  show impl_Digest.f k l = some (digM l)
  unfold impl_Digest.f dg_Digest.f
  rw [e1 _ hk, Option.bind_some, if_pos ⟨by omega, hm, by omega⟩]
  rfl
end Go.Proofs.Ythkaifddpjjmaaa.P
