/- What is drawn as pairs: that drawing ends, and the bounds of what is drawn. No condition but bounds on lengths. -/
import Derived.Test.YthkaifddpjjmaaaDraw
import Derived.Test.YthkaifddpjjmaaaPx0
import Derived.Test.YthkaifddpjjmaaaPx2
import Derived.Test.YthkaifddpjjmaaaPx6
namespace Go.Proofs.Ythkaifddpjjmaaa.P
open Go.RowKit Go.Proofs.YthkaifddpjjmaaaW.PrintWords Go.Proofs.YthkaifddpjjmaaaW.PrintLast Go.Proofs.YthkaifddpjjmaaaW.PrintMore
set_option linter.unusedVariables false
set_option linter.unusedSimpArgs false
theorem l1Str_small {s : List Int} {p : Int} (h : St s p) (x : Int) (l : List ByteArray) (hl : 0 < l.length) (ha : l.all (fun v => decide (v.size ≤ 20)) = true) :
    ∃ v q y, spec_l1Str.f s p x l = some (v, q, y) ∧ St s q ∧ v.size ≤ 20 := by
  obtain ⟨v, q, y, e, hq, hm⟩ := l1Str_some h x l hl
  exact ⟨v, q, y, e, hq, by simpa using List.all_eq_true.1 ha v hm⟩
theorem l3Key_some {s : List Int} {p : Int} (h : St s p) (x : Int) : ∃ v q y, spec_l3Key.f s p x = some (v, q, y) ∧ St s q ∧ v.size ≤ 20 := by
  unfold spec_l3Key.f
  obtain ⟨v, q, y, e, hq, hm⟩ := l1Str_small h x ([(⟨#[97]⟩ : ByteArray), (⟨#[98]⟩ : ByteArray), (⟨#[99]⟩ : ByteArray), (⟨#[107, 49]⟩ : ByteArray), (⟨#[107, 50]⟩ : ByteArray), (⟨#[109]⟩ : ByteArray), (⟨#[122]⟩ : ByteArray)] : List ByteArray) (by decide) (by decide)
  rw [e, Option.bind_some]
  exact ⟨_, _, _, rfl, hq, hm⟩
theorem l3Val_some {s : List Int} {p : Int} (h : St s p) (x : Int) : ∃ v q y, spec_l3Val.f s p x = some (v, q, y) ∧ St s q ∧ v.size ≤ 20 := by
  unfold spec_l3Val.f
  obtain ⟨v, q, y, e, hq, hm⟩ := l1Str_small h x ([(⟨#[]⟩ : ByteArray), (⟨#[49]⟩ : ByteArray), (⟨#[50]⟩ : ByteArray), (⟨#[120]⟩ : ByteArray), (⟨#[118, 97, 108, 117, 101]⟩ : ByteArray), (⟨#[0]⟩ : ByteArray)] : List ByteArray) (by decide) (by decide)
  rw [e, Option.bind_some]
  exact ⟨_, _, _, rfl, hq, hm⟩
theorem l3KeyAny_some {s : List Int} {p : Int} (h : St s p) (x : Int) : ∃ v q y, spec_l3KeyAny.f s p x = some (v, q, y) ∧ St s q ∧ v.size ≤ 20 := by
  unfold spec_l3KeyAny.f
  obtain ⟨b, q, y, e, hq⟩ := l1Once_some h x 6 (by decide)
  rw [e, Option.bind_some]
  by_cases c : b = true
  · rw [if_pos c]
    obtain ⟨v, q2, y2, e2, hq2, hm⟩ := l1Str_small hq y ([(⟨#[]⟩ : ByteArray), (⟨#[65]⟩ : ByteArray), (⟨#[97, 32, 98]⟩ : ByteArray), (⟨#[116, 104, 105, 114, 116, 101, 101, 110, 98, 121, 116, 101, 115]⟩ : ByteArray), (⟨#[116, 119, 101, 108, 118, 101, 98, 121, 116, 101, 115, 49]⟩ : ByteArray)] : List ByteArray) (by decide) (by decide)
    rw [e2, Option.bind_some]
    exact ⟨_, _, _, rfl, hq2, hm⟩
  · rw [if_neg c]
    obtain ⟨v, q2, y2, e2, hq2, hm⟩ := l3Key_some hq y
    rw [e2, Option.bind_some]
    exact ⟨_, _, _, rfl, hq2, hm⟩
/-- Pairs of small texts. -/
def PR (l : List S26) : Prop := ∀ p ∈ l, p.f0.size ≤ 30 ∧ p.f1.size ≤ 30
theorem PR.nil : PR [] := fun _ h => by cases h
theorem PR.app {a b : List S26} (h : PR a) (k : PR b) : PR (a ++ b) := fun p hp => by
  rcases List.mem_append.1 hp with h1 | h1
  · exact h p h1
  · exact k p h1
theorem PR.one {a b : ByteArray} (h : a.size ≤ 30) (k : b.size ≤ 30) : PR [(⟨a, b⟩ : S26)] := fun p hp => by
  rw [List.mem_singleton.1 hp]
  exact ⟨h, k⟩
theorem PR.set {l : List S26} (h : PR l) (i : Nat) {a b : ByteArray} (ha : a.size ≤ 30) (hb : b.size ≤ 30) : PR (l.set i ⟨a, b⟩) := fun p hp => by
  rcases List.mem_or_eq_of_mem_set hp with h1 | h1
  · exact h p h1
  · rw [h1]; exact ⟨ha, hb⟩
theorem PR.take {l : List S26} (h : PR l) (i : Nat) : PR (l.take i) := fun p hp => h p (List.mem_of_mem_take hp)
theorem PR.drop {l : List S26} (h : PR l) (i : Nat) : PR (l.drop i) := fun p hp => h p (List.mem_of_mem_drop hp)
theorem PR.rd {l : List S26} (h : PR l) {i : Nat} (hi : i < l.length) : (rd_T26 l (i : Int)).f0.size ≤ 30 := by
  have e : rd_T26 l (i : Int) = l[i] := by
    unfold rd_T26
    simp [List.getD_eq_getElem?_getD, hi]
  rw [e]
  exact (h _ (List.getElem_mem hi)).1
theorem PutKey_l1 (l : List S26) (hl : l.length ≤ 1000) (hp : PR l) (a b : ByteArray) (ha : a.size ≤ 30) (hb : b.size ≤ 30) : ∀ d i : Nat, l.length - i = d → i ≤ l.length →
    ∃ r, Ev (fun k => spec_PutKey.l1 k l a b (i : Int)) r ∧ PR r ∧ r.length ≤ l.length + 1 := by
  have hmid : ∀ i : Nat, i ≤ l.length → PR (([] ++ l.take (i : Int).toNat ++ [(⟨a, b⟩ : S26)]) ++ l.drop (i : Int).toNat) ∧ (([] ++ l.take (i : Int).toNat ++ [(⟨a, b⟩ : S26)]) ++ l.drop (i : Int).toNat).length ≤ l.length + 1 := by
    intro i hi
    refine ⟨PR.app (PR.app (PR.app PR.nil (hp.take _)) (PR.one ha hb)) (hp.drop _), ?_⟩
    simp
    omega
  have ht : ∀ i : Nat, (l.take i).length ≤ l.length := fun i => by rw [List.length_take]; omega
  have hdr : ∀ i : Nat, (l.drop i).length ≤ l.length := fun i => by rw [List.length_drop]; omega
  intro d
  induction d with
  | zero =>
    intro i hd hi
    refine ⟨_, Ev.up (Ev.now _) (fun k _ => ?_), hmid i hi⟩
    have h1 := ht (i : Int).toNat
    have h2 := hdr (i : Int).toNat
    simp only [spec_PutKey.l1, Option.bind_some]
    rw [if_neg (by omega), if_pos (by omega), if_pos (by omega), if_pos (by simp only [List.length_nil]; omega), if_pos (by simp only [List.nil_append]; omega), if_pos (by simp only [List.nil_append, List.length_append, List.length_singleton]; omega)]
  | succ d ih =>
    intro i hd hi
    by_cases c : Op.bytesLess a.toList (rd_T26 l (i : Int)).f0.toList = true
    · refine ⟨_, Ev.up (Ev.now _) (fun k _ => ?_), hmid i hi⟩
      have h1 := ht (i : Int).toNat
      have h2 := hdr (i : Int).toNat
      simp only [spec_PutKey.l1, Option.bind_some]
      rw [if_pos (by omega), if_pos (by omega), if_pos c, if_pos (by omega), if_pos (by simp only [List.length_nil]; omega), if_pos (by simp only [List.nil_append]; omega), if_pos (by simp only [List.nil_append, List.length_append, List.length_singleton]; omega)]
    · obtain ⟨r, e, h⟩ := ih (i + 1) (by omega) (by omega)
      refine ⟨r, Ev.up e (fun k hk => ?_), h⟩
      simp only [spec_PutKey.l1]
      rw [if_pos (by omega), if_pos (by omega), if_neg c, w64 (by omega) (by omega)]
      exact hk
theorem PutKey_l0 (l : List S26) (hl : l.length ≤ 1000) (hp : PR l) (a b : ByteArray) (ha : a.size ≤ 30) (hb : b.size ≤ 30) : ∀ d i : Nat, l.length - i = d → i ≤ l.length →
    ∃ r, Ev (fun k => spec_PutKey.l0 k l a b l (i : Int)) r ∧ PR r ∧ r.length ≤ l.length + 1 := by
  intro d
  induction d with
  | zero =>
    intro i hd hi
    obtain ⟨r, e, h⟩ := PutKey_l1 l hl hp a b ha hb _ 0 rfl (by omega)
    refine ⟨r, Ev.up e (fun k hk => ?_), h⟩
    simp only [spec_PutKey.l0]
    rw [if_neg (by omega)]
    exact hk
  | succ d ih =>
    intro i hd hi
    by_cases c : (rd_T26 l (i : Int)).f0.toList = a.toList
    · refine ⟨l.set (i : Int).toNat ⟨(rd_T26 l (i : Int)).f0, b⟩, Ev.up (Ev.now _) (fun k _ => ?_), hp.set _ (hp.rd (by omega)) hb, by simp⟩
      simp only [spec_PutKey.l0]
      rw [if_pos (by omega), if_pos (by omega), if_pos c]
    · obtain ⟨r, e, h⟩ := ih (i + 1) (by omega) (by omega)
      refine ⟨r, Ev.up e (fun k hk => ?_), h⟩
      simp only [spec_PutKey.l0]
      rw [if_pos (by omega), if_pos (by omega), if_neg c, w64 (by omega) (by omega)]
      exact hk
theorem PutKey_some (l : List S26) (hl : l.length ≤ 1000) (hp : PR l) (a b : ByteArray) (ha : a.size ≤ 30) (hb : b.size ≤ 30) : ∃ r, Ev (fun k => spec_PutKey.f k l a b) r ∧ PR r ∧ r.length ≤ l.length + 1 := by
  obtain ⟨r, e, h⟩ := PutKey_l0 l hl hp a b ha hb _ 0 rfl (by omega)
  refine ⟨r, e.congr (fun k => ?_), h⟩
  unfold spec_PutKey.f
  rw [Option.bind_some, if_pos (by simp only [List.length_nil]; omega), List.nil_append]
  rfl
theorem l3Draw_loop (s : List Int) : ∀ (n : Nat) (acc : List S26) (p x : Int), acc.length + n ≤ 100 → n ≤ 100 → PR acc → St s p →
    ∃ r q y, Ev (fun k => spec_l3Draw.l0 k acc (n : Int) s p x) (r, q, y) ∧ St s q ∧ PR r ∧ r.length ≤ acc.length + n := by
  intro n
  induction n with
  | zero =>
    intro acc p x hl hn hp hs
    refine ⟨acc, p, x, Ev.up (Ev.now _) (fun k _ => ?_), hs, hp, by omega⟩
    simp only [spec_l3Draw.l0]
    rw [if_neg (by omega)]
  | succ n ih =>
    intro acc p x hl hn hp hs
    obtain ⟨a, q, y, e, h1, ha⟩ := l3Key_some hs x
    obtain ⟨b, q2, y2, e2, h2, hb⟩ := l3Val_some h1 y
    obtain ⟨r, e3, hr, hrl⟩ := PutKey_some acc (by omega) hp a b (by omega) (by omega)
    obtain ⟨r2, q3, y3, e4, h4, hr4, hrl4⟩ := ih r q2 y2 (by omega) (by omega) hr h2
    obtain ⟨K3, e3⟩ := Ev.get e3
    obtain ⟨K4, e4⟩ := Ev.get e4
    refine ⟨r2, q3, y3, ⟨K3 + K4 + 1, fun k hk => ?_⟩, h4, hr4, by omega⟩
    obtain ⟨k, rfl⟩ : ∃ j, k = j + 1 := ⟨k - 1, by omega⟩
    have hx := e4 k (by omega)
    show spec_l3Draw.l0 (k + 1) _ _ _ _ _ = _
    simp only [spec_l3Draw.l0]
    rw [if_pos (by omega), e, Option.bind_some, e2, Option.bind_some, e3 _ (by omega), Option.bind_some, w64 (by omega) (by omega), show ((n + 1 : Nat) : Int) - 1 = (n : Int) by omega]
    exact hx
theorem l3Draw_some {s : List Int} {p : Int} (h : St s p) (x : Int) : ∃ r q y, Ev (fun k => spec_l3Draw.f k s p x) (r, q, y) ∧ St s q ∧ PR r ∧ r.length ≤ 8 := by
  obtain ⟨v, q, y, e, hq, h0, h1⟩ := l1Below_some h x 8 (by decide)
  obtain ⟨n, rfl⟩ := Int.eq_ofNat_of_zero_le h0
  obtain ⟨r, q2, y2, e2, h2, hr, hl⟩ := l3Draw_loop s n [] q y (by simp; omega) (by omega) PR.nil hq
  refine ⟨r, q2, y2, e2.congr (fun k => ?_), h2, hr, by simp only [List.length_nil] at hl; omega⟩
  unfold spec_l3Draw.f
  rw [e, Option.bind_some]
theorem l3Any_some {s : List Int} {p : Int} (h : St s p) (x : Int) : ∃ r q y, Ev (fun k => spec_l3Any.f k s p x) (r, q, y) ∧ St s q ∧ PR r ∧ r.length ≤ 9 := by
  obtain ⟨r, q, y, e, h1, hr, hl⟩ := l3Draw_some h x
  obtain ⟨v, q2, y2, e2, h2, hv0, hv1⟩ := l1Below_some h1 y 8 (by decide)
  obtain ⟨K, eK⟩ := Ev.get e
  by_cases c : v = 0
  · obtain ⟨a, q3, y3, e3, h3, ha⟩ := l3KeyAny_some h2 y2
    obtain ⟨b, q4, y4, e4, h4, hb⟩ := l3Val_some h3 y3
    refine ⟨r ++ [⟨a, b⟩], q4, y4, ⟨K, fun k hk => ?_⟩, h4, PR.app hr (PR.one (by omega) (by omega)), by simp; omega⟩
    show spec_l3Any.f k s p x = _
    unfold spec_l3Any.f
    rw [eK k hk, Option.bind_some, e2, Option.bind_some, if_pos c, e3, Option.bind_some, e4, Option.bind_some, if_pos (by simp only; omega)]
  · by_cases c1 : v = 1
    · by_cases c2 : (r.length : Int) > 0
      · obtain ⟨n, q3, y3, e3, h3, hn0, hn1⟩ := l1Below_some h2 y2 2 (by decide)
        have hz : (strOfNums (List.replicate (wrap64 (20 + n) : Int).toNat 0)).size ≤ 30 := by
          rw [strOfNums_size, List.length_replicate, w64 (by omega) (by omega)]; omega
        refine ⟨r.set (0 : Int).toNat ⟨(rd_T26 r 0).f0, strOfNums (List.replicate (wrap64 (20 + n) : Int).toNat 0)⟩, q3, y3, ⟨K, fun k hk => ?_⟩, h3, hr.set _ (hr.rd (i := 0) (by omega)) hz, by simp; omega⟩
        show spec_l3Any.f k s p x = _
        unfold spec_l3Any.f
        rw [eK k hk, Option.bind_some, e2, Option.bind_some, if_neg c, if_pos c1, if_pos c2, e3, Option.bind_some, if_pos (by rw [w64 (by omega) (by omega)]; omega), if_pos (by rw [w64 (by omega) (by omega)]; omega), if_pos (by simp only; omega)]
      · refine ⟨r, q2, y2, ⟨K, fun k hk => ?_⟩, h2, hr, by omega⟩
        show spec_l3Any.f k s p x = _
        unfold spec_l3Any.f
        rw [eK k hk, Option.bind_some, e2, Option.bind_some, if_neg c, if_pos c1, if_neg c2]
    · refine ⟨r, q2, y2, ⟨K, fun k hk => ?_⟩, h2, hr, by omega⟩
      show spec_l3Any.f k s p x = _
      unfold spec_l3Any.f
      rw [eK k hk, Option.bind_some, e2, Option.bind_some, if_neg c, if_neg c1]
end Go.Proofs.Ythkaifddpjjmaaa.P
