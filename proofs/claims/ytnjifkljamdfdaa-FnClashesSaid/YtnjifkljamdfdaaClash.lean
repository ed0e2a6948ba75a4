/- Clashes: the program's and the reference's answer what the model answers. No condition but bounds on lengths. -/
import Derived.Laws.Strings
import Derived.Test.YtnjifkljamdfdaaTree
import Derived.Test.YtnjifkljamdfdaaDraw
import Derived.Test.YtnjifkljamdfdaaPx10
import Derived.Test.YtnjifkljamdfdaaPx11
import Derived.Test.YtnjifkljamdfdaaPx13
import Derived.Test.YtnjifkljamdfdaaPx14
namespace Go.Proofs.Ytnjifkljamdfdaa.P
open Go.RowKit Go.Proofs.YtnjifkljamdfdaaW.PrintWords Go.Proofs.YtnjifkljamdfdaaW.PrintLast Go.Proofs.YtnjifkljamdfdaaW.PrintMore
set_option linter.unusedVariables false
set_option linter.unusedSimpArgs false
def clashM (a b : ByteArray) (k : Int) : Bool :=
  if a.toList = b.toList then false else if 0 ≤ k ∧ k ≤ 32 then ((digM (bytesOf a)).extract 0 k.toNat).toList == ((digM (bytesOf b)).extract 0 k.toNat).toList else false
theorem clashM_comm (a b : ByteArray) (k : Int) : clashM a b k = clashM b a k := by
  unfold clashM
  by_cases h : a.toList = b.toList
  · rw [if_pos h, if_pos h.symm]
  · rw [if_neg h, if_neg (fun e : b.toList = a.toList => h e.symm)]
    by_cases c : 0 ≤ k ∧ k ≤ 32
    · rw [if_pos c, if_pos c]; exact Bool.beq_comm
    · rw [if_neg c, if_neg c]
theorem clashM_self (a : ByteArray) (k : Int) : clashM a a k = false := by
  unfold clashM
  rw [if_pos rfl]
theorem clashM_less {a b : ByteArray} {k : Int} (h : clashM a b k = true) (h0 : k ≠ 0) : clashM a b (k - 1) = true := by
  unfold clashM at h ⊢
  by_cases c : a.toList = b.toList
  · rw [if_pos c] at h; cases h
  · rw [if_neg c] at h ⊢
    by_cases c2 : 0 ≤ k ∧ k ≤ 32
    · rw [if_pos c2, beq_iff_eq, ByteArray.toList_eq, ByteArray.toList_eq] at h
      rw [if_pos (by omega), beq_iff_eq, ByteArray.toList_eq, ByteArray.toList_eq]
      simp only [ByteArray.data_extract, Array.toList_extract, List.extract_eq_take_drop, Nat.sub_zero, List.drop_zero] at h ⊢
      have e := congrArg (List.take (k - 1).toNat) h
      rw [List.take_take, List.take_take, Nat.min_eq_left (by omega)] at e
      exact e
    · rw [if_neg c2] at h; cases h
theorem impl_IsClash_ev (a b : ByteArray) (k : Int) (ha : a.size ≤ 1000000000000) (hb : b.size ≤ 1000000000000) : Ev (fun q => impl_IsClash.f q a b k) (clashM a b k) := by
  obtain ⟨K1, e1⟩ := Ev.get (impl_Digest_ev (bytesOf a) (by rw [bytesOf_length]; omega))
  obtain ⟨K2, e2⟩ := Ev.get (impl_Digest_ev (bytesOf b) (by rw [bytesOf_length]; omega))
  refine ⟨K1 + K2, fun q hq => ?_⟩
  show impl_IsClash.f q a b k = _
  unfold impl_IsClash.f clashM
  by_cases c : a.toList = b.toList
  · rw [if_pos c, if_pos c]
  · rw [if_neg c, if_neg c]
    by_cases c2 : 0 ≤ k ∧ k ≤ 32
    · rw [if_pos c2, if_pos c2, if_pos ⟨by omega, by omega⟩, e1 _ (by omega), Option.bind_some, e2 _ (by omega), Option.bind_some, if_pos ⟨digM_size _, digM_size _⟩]
    · rw [if_neg c2, if_neg c2]
theorem spec_IsClash_ev (a b : ByteArray) (k : Int) (ha : a.size ≤ 1000000000000) (hb : b.size ≤ 1000000000000) : Ev (fun q => spec_IsClash.f q a b k) (clashM a b k) := by
  obtain ⟨K1, e1⟩ := Ev.get (spec_Digest_ev (bytesOf a) (By.bytesOf a) (by rw [bytesOf_length]; omega))
  obtain ⟨K2, e2⟩ := Ev.get (spec_Digest_ev (bytesOf b) (By.bytesOf b) (by rw [bytesOf_length]; omega))
  refine ⟨K1 + K2, fun q hq => ?_⟩
  show spec_IsClash.f q a b k = _
  unfold spec_IsClash.f clashM
  by_cases c : a.toList = b.toList
  · rw [if_pos c, if_pos c]
  · rw [if_neg c, if_neg c]
    by_cases c2 : 0 ≤ k ∧ k ≤ 32
    · rw [if_pos c2, if_pos c2, if_pos ⟨by omega, by omega⟩, e1 _ (by omega), Option.bind_some, e2 _ (by omega), Option.bind_some, if_pos ⟨digM_size _, digM_size _⟩]
    · rw [if_neg c2, if_neg c2]
theorem l6Twin_loop (x1 : Int) : ∀ (d : Nat) (i : Nat), 65536 - i = d → i ≤ 65536 → ∃ r, Ev (fun k => spec_l6Twin.l0 k x1 (i : Int)) r ∧ r.size ≤ 2 := by
  intro d
  induction d with
  | zero =>
    intro i hd hi
    refine ⟨⟨#[]⟩, Ev.up (Ev.now _) (fun k _ => ?_), Nat.zero_le _⟩
    simp only [spec_l6Twin.l0]
    rw [if_neg (by omega)]
  | succ d ih =>
    intro i hd hi
    have hb : By [(i : Int) % 256, (i : Int) / 256 % 256] := fun x hx => by
      simp only [List.mem_cons, List.not_mem_nil, or_false] at hx
      rcases hx with rfl | rfl <;> omega
    obtain ⟨K1, e1⟩ := Ev.get (spec_Digest_ev [(i : Int) % 256, (i : Int) / 256 % 256] hb (by simp))
    have hs := digM_size [(i : Int) % 256, (i : Int) / 256 % 256]
    by_cases c : bt (digM [(i : Int) % 256, (i : Int) / 256 % 256]) 0 = x1
    · refine ⟨strOfNums [(i : Int) % 256, (i : Int) / 256 % 256], ⟨K1 + 1, fun k hk => ?_⟩, by rw [strOfNums_size]; simp⟩
      obtain ⟨k, rfl⟩ : ∃ m, k = m + 1 := ⟨k - 1, by omega⟩
      show spec_l6Twin.l0 (k + 1) x1 (i : Int) = _
      simp only [spec_l6Twin.l0]
      rw [if_pos (by omega), Option.bind_some, e1 _ (by omega), Option.bind_some, if_pos (by omega), if_pos c]
    · obtain ⟨r, hr, hrs⟩ := ih (i + 1) (by omega) (by omega)
      obtain ⟨K2, e2⟩ := Ev.get hr
      refine ⟨r, ⟨K1 + K2 + 1, fun k hk => ?_⟩, hrs⟩
      obtain ⟨k, rfl⟩ : ∃ m, k = m + 1 := ⟨k - 1, by omega⟩
      show spec_l6Twin.l0 (k + 1) x1 (i : Int) = _
      simp only [spec_l6Twin.l0]
      rw [if_pos (by omega), Option.bind_some, e1 _ (by omega), Option.bind_some, if_pos (by omega), if_neg c, w64 (by omega) (by omega)]
      exact e2 k (by omega)
theorem l6Twin_some : ∃ r, Ev (fun k => spec_l6Twin.f k) r ∧ r.size ≤ 2 := by
  obtain ⟨K1, e1⟩ := Ev.get (spec_Digest_ev [0] (By.one (by omega) (by omega)) (by simp))
  have hs := digM_size [0]
  obtain ⟨r, hr, hrs⟩ := l6Twin_loop (bt (digM [0]) 0) 65535 1 rfl (by omega)
  obtain ⟨K2, e2⟩ := Ev.get hr
  refine ⟨r, ⟨K1 + K2, fun k hk => ?_⟩, hrs⟩
  show spec_l6Twin.f k = _
  unfold spec_l6Twin.f
  rw [e1 _ (by omega), Option.bind_some, if_pos (by omega)]
  exact e2 k (by omega)
theorem DrawIsClash_some (s : List Int) (hs : s.length ≤ 1048576) : ∃ a b n, Ev (fun k => spec_DrawIsClash.f k s) (a, b, n) ∧ a.size ≤ 9 ∧ b.size ≤ 9 ∧ -1 ≤ n ∧ n ≤ 33 := by
  obtain ⟨y, e, h⟩ := l1New_some s hs
  obtain ⟨b, q, y2, e2, h2, hb, hl⟩ := l1Some_some h y
  obtain ⟨n, q3, y3, e3, h3, hn⟩ := l1Int_some h2 y2 [0, 0, 1, 32, 33, (-1)] (by simp)
  have hn2 : -1 ≤ n ∧ n ≤ 33 := by
    simp only [List.mem_cons, List.not_mem_nil, or_false] at hn
    omega
  obtain ⟨o, q4, y4, e4, h4⟩ := l1Once_some h3 y3 4 (by omega)
  obtain ⟨K1, e1⟩ := Ev.get e
  obtain ⟨K2, e2⟩ := Ev.get e2
  by_cases c : o = true
  · refine ⟨strOfNums b, strOfNums b, n, ⟨K1 + K2, fun k hk => ?_⟩, by rw [strOfNums_size]; omega, by rw [strOfNums_size]; omega, hn2.1, hn2.2⟩
    show spec_DrawIsClash.f k s = _
    unfold spec_DrawIsClash.f
    rw [e1 _ (by omega), Option.bind_some, e2 _ (by omega), Option.bind_some, e3, Option.bind_some, e4, Option.bind_some, if_pos c]
  · obtain ⟨o2, q5, y5, e5, h5⟩ := l1Once_some h4 y4 3 (by omega)
    by_cases c2 : o2 = true
    · obtain ⟨t, ht, hts⟩ := l6Twin_some
      obtain ⟨K3, e6⟩ := Ev.get ht
      refine ⟨t, strOfNums [0], 1, ⟨K1 + K2 + K3, fun k hk => ?_⟩, by omega, by rw [strOfNums_size]; simp, by omega, by omega⟩
      show spec_DrawIsClash.f k s = _
      unfold spec_DrawIsClash.f
      rw [e1 _ (by omega), Option.bind_some, e2 _ (by omega), Option.bind_some, e3, Option.bind_some, e4, Option.bind_some, if_neg c, e5, Option.bind_some, if_pos c2, e6 _ (by omega), Option.bind_some]
    · obtain ⟨b2, q6, y6, e6, h6, hb6, hl6⟩ := l1Some_some h5 y5
      obtain ⟨K3, e6⟩ := Ev.get e6
      refine ⟨strOfNums b, strOfNums b2, n, ⟨K1 + K2 + K3, fun k hk => ?_⟩, by rw [strOfNums_size]; omega, by rw [strOfNums_size]; omega, hn2.1, hn2.2⟩
      show spec_DrawIsClash.f k s = _
      unfold spec_DrawIsClash.f
      rw [e1 _ (by omega), Option.bind_some, e2 _ (by omega), Option.bind_some, e3, Option.bind_some, e4, Option.bind_some, if_neg c, e5, Option.bind_some, if_neg c2, e6 _ (by omega), Option.bind_some]
end Go.Proofs.Ytnjifkljamdfdaa.P
