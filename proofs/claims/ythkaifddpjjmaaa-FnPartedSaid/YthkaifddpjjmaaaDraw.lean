/- What is drawn from bytes: that drawing ends, and the bounds of what is drawn. No condition but bounds on lengths. -/
import Derived.Test.YthkaifddpjjmaaaPlain
import Derived.Test.YthkaifddpjjmaaaPx2
import Derived.Test.YthkaifddpjjmaaaPx6
namespace Go.Proofs.Ythkaifddpjjmaaa.P
open Go.RowKit Go.Proofs.YthkaifddpjjmaaaW.PrintWords Go.Proofs.YthkaifddpjjmaaaW.PrintLast Go.Proofs.YthkaifddpjjmaaaW.PrintMore
set_option linter.unusedVariables false
set_option linter.unusedSimpArgs false
theorem and255 (x : Int) : 0 ≤ Go.bits .and .i64 x 255 ∧ Go.bits .and .i64 x 255 < 256 := by
  have h : ((BitVec.ofInt 64 x) &&& (BitVec.ofInt 64 255)).toNat ≤ 255 := by
    rw [BitVec.toNat_and]
    exact Nat.le_trans Nat.and_le_right (by decide)
  have e : Go.bits .and .i64 x 255 = (((BitVec.ofInt 64 x) &&& (BitVec.ofInt 64 255)).toNat : Int) := by
    show IntKind.i64.wrap (((BitVec.ofInt 64 x) &&& (BitVec.ofInt 64 255)).toNat : Int) = _
    exact i64_wrap_small (by omega) (by omega)
  rw [e]
  omega
/-- A drawing's state: its bytes and its place in them. -/
def St (s : List Int) (p : Int) : Prop := s.length ≤ 1000000000 ∧ 0 ≤ p ∧ p ≤ s.length
theorem rd_mem {l : List Int} {i : Int} (h0 : 0 ≤ i) (h1 : i < l.length) : rd l i ∈ l := by
  obtain ⟨n, rfl⟩ := Int.eq_ofNat_of_zero_le h0
  rw [rd_nat l n (by omega)]
  exact List.getElem_mem _
theorem rdOf_mem {l : List ByteArray} {i : Int} (h0 : 0 ≤ i) (h1 : i < l.length) : rdOf ByteArray.empty l i ∈ l := by
  obtain ⟨n, rfl⟩ := Int.eq_ofNat_of_zero_le h0
  have h : n < l.length := by omega
  have e : rdOf ByteArray.empty l (n : Int) = l[n] := by
    unfold rdOf
    simp [List.getD_eq_getElem?_getD, h]
  rw [e]
  exact List.getElem_mem _
theorem l1Byte_some {s : List Int} {p : Int} (h : St s p) (x : Int) : ∃ v q y, spec_l1Byte.f s p x = some (v, q, y) ∧ St s q ∧ 0 ≤ v ∧ v < 256 := by
  unfold spec_l1Byte.f
  have h1 := h.1
  have h2 := h.2.1
  by_cases c : p < (s.length : Int)
  · rw [if_pos c, if_pos h.2.1]
    exact ⟨_, _, _, rfl, ⟨h.1, by rw [w64 (by omega) (by omega)]; omega, by rw [w64 (by omega) (by omega)]; omega⟩, and255 _⟩
  · rw [if_neg c]
    exact ⟨_, _, _, rfl, h, and255 _⟩
theorem l1Below_some {s : List Int} {p : Int} (h : St s p) (x n : Int) (hn : 0 < n) : ∃ v q y, spec_l1Below.f s p x n = some (v, q, y) ∧ St s q ∧ 0 ≤ v ∧ v < n := by
  unfold spec_l1Below.f
  rw [if_neg (by omega)]
  by_cases c : n ≤ 256
  · rw [if_pos c]
    obtain ⟨v, q, y, e, hq, h0, h1⟩ := l1Byte_some h x
    rw [e, Option.bind_some, if_neg (by omega)]
    exact ⟨_, _, _, rfl, hq, Int.tmod_nonneg _ h0, Int.tmod_lt_of_pos _ hn⟩
  · rw [if_neg c]
    obtain ⟨v, q, y, e, hq, h0, h1⟩ := l1Byte_some h x
    obtain ⟨v2, q2, y2, e2, hq2, h02, h12⟩ := l1Byte_some hq y
    obtain ⟨v3, q3, y3, e3, hq3, h03, h13⟩ := l1Byte_some hq2 y2
    rw [e, Option.bind_some, e2, Option.bind_some, e3, Option.bind_some, if_neg (by omega)]
    refine ⟨_, _, _, rfl, hq3, Int.tmod_nonneg _ ?_, Int.tmod_lt_of_pos _ hn⟩
    rw [w64 (x := v * 65536) (by omega) (by omega), w64 (x := v2 * 256) (by omega) (by omega), w64 (x := v * 65536 + v2 * 256) (by omega) (by omega), w64 (by omega) (by omega)]
    omega
theorem l1Once_some {s : List Int} {p : Int} (h : St s p) (x n : Int) (hn : 0 < n) : ∃ b q y, spec_l1Once.f s p x n = some (b, q, y) ∧ St s q := by
  obtain ⟨v, q, y, e, hq, h0, h1⟩ := l1Below_some h x n hn
  unfold spec_l1Once.f
  rw [e, Option.bind_some]
  exact ⟨_, _, _, rfl, hq⟩
theorem l1Int_some {s : List Int} {p : Int} (h : St s p) (x : Int) (l : List Int) (hl : 0 < l.length) : ∃ v q y, spec_l1Int.f s p x l = some (v, q, y) ∧ St s q ∧ v ∈ l := by
  obtain ⟨v, q, y, e, hq, h0, h1⟩ := l1Below_some h x (l.length : Int) (by omega)
  unfold spec_l1Int.f
  rw [e, Option.bind_some, if_pos h0, if_pos h1]
  exact ⟨_, _, _, rfl, hq, rd_mem h0 h1⟩
theorem l1Str_some {s : List Int} {p : Int} (h : St s p) (x : Int) (l : List ByteArray) (hl : 0 < l.length) : ∃ v q y, spec_l1Str.f s p x l = some (v, q, y) ∧ St s q ∧ v ∈ l := by
  obtain ⟨v, q, y, e, hq, h0, h1⟩ := l1Below_some h x (l.length : Int) (by omega)
  unfold spec_l1Str.f
  rw [e, Option.bind_some, if_pos h0, if_pos h1]
  exact ⟨_, _, _, rfl, hq, rdOf_mem h0 h1⟩
theorem l1New_loop (s : List Int) (hs : s.length ≤ 1000000000) : ∀ (d i : Nat) (x : Int), s.length - i = d → i ≤ s.length → ∃ y, Ev (fun k => spec_l1New.l0 k s x (i : Int)) (s, 0, y) := by
  intro d
  induction d with
  | zero =>
    intro i x hd hi
    refine ⟨x, Ev.up (Ev.now _) (fun k _ => ?_)⟩
    simp only [spec_l1New.l0]
    rw [if_neg (by omega)]
  | succ d ih =>
    intro i x hd hi
    by_cases c : (i : Int) < 4000
    · obtain ⟨y, e⟩ := ih (i + 1) (Go.bits .and .i64 (wrap64 ((wrap64 ((wrap64 (x * 137)) + (wrap64 (rd s i)))) + 11)) 1073741823) (by omega) (by omega)
      refine ⟨y, Ev.up e (fun k hk => ?_)⟩
      simp only [spec_l1New.l0]
      rw [if_pos (by omega), if_pos c, if_pos (by omega), w64 (x := (i : Int) + 1) (by omega) (by omega)]
      exact hk
    · refine ⟨x, Ev.up (Ev.now _) (fun k _ => ?_)⟩
      simp only [spec_l1New.l0]
      rw [if_pos (by omega), if_neg c]
theorem l1New_some (s : List Int) (hs : s.length ≤ 1048576) : ∃ y, Ev (fun k => spec_l1New.f k s) (s, 0, y) ∧ St s 0 := by
  obtain ⟨y, e⟩ := l1New_loop s (by omega) _ 0 (wrap64 (381381 + (s.length : Int))) rfl (by omega)
  exact ⟨y, e, by omega, by omega, by omega⟩
end Go.Proofs.Ythkaifddpjjmaaa.P
