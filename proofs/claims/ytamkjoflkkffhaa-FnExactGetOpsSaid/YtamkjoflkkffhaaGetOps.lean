/- Orders read from bytes: the reader takes what the writer writes and nothing else; the program's answer and the reference's. No condition but bounds on lengths. -/
import Derived.Test.YtamkjoflkkffhaaMeets
import Derived.Test.YtamkjoflkkffhaaRead
import Derived.Test.YtamkjoflkkffhaaPx0
import Derived.Test.YtamkjoflkkffhaaPx11
import Derived.Test.YtamkjoflkkffhaaPx12
import Derived.Test.YtamkjoflkkffhaaPx13
import Derived.Test.YtamkjoflkkffhaaPx39
import Derived.Test.YtamkjoflkkffhaaPx8
namespace Go.Proofs.Ytamkjoflkkffhaa.P
open Go.RowKit Go.Proofs.YtamkjoflkkffhaaW.PrintWords Go.Proofs.YtamkjoflkkffhaaW.PrintLast Go.Proofs.YtamkjoflkkffhaaW.PrintMore
set_option linter.unusedVariables false
set_option linter.unusedSimpArgs false
theorem gto_bytes {l : List Int} (h : By l) : bytesOf (strOfNums l) = l := by
  unfold bytesOf strOfNums
  simp only [List.map_map]
  conv => rhs; rw [← List.map_id l]
  apply List.map_congr_left
  intro x hx
  have := h x hx
  simp only [Function.comp_apply, id_eq]
  rw [UInt8.toNat_ofNat_of_lt' (by simp [UInt8.size]; omega)]
  omega
theorem By.take {l : List Int} (h : By l) (n : Nat) : By (l.take n) := fun x hx => h x (List.mem_of_mem_take hx)
theorem By.drop {l : List Int} (h : By l) (n : Nat) : By (l.drop n) := fun x hx => h x (List.mem_of_mem_drop hx)
/-- A number that is read is written as it stood. -/
theorem gnM_canon {b : List Int} (hb : By b) : ∀ (f p : Nat) (n : Int) (i : Nat), f + i = 5 → (gnM b f p n i).2.2 = true →
    ∃ m : Nat, (gnM b f p n i).1 = n + (m : Int) * 128 ^ i ∧ b.drop p = encN m ++ b.drop (gnM b f p n i).2.1.toNat ∧ (m = 0 → i = 0) := by
  intro f
  induction f with
  | zero => intro p n i _ h; simp [gnM] at h
  | succ f ih =>
    intro p n i hf h
    have hr := hb.rd (p : Int)
    unfold gnM at h ⊢
    by_cases c1 : p < b.length
    · have hd : b.drop p = rd b (p : Int) :: b.drop (p + 1) := by rw [rd_nat b p c1]; exact List.drop_eq_getElem_cons c1
      rw [if_pos c1] at h ⊢
      by_cases c2 : rd b (p : Int) < 128
      · rw [if_pos c2] at h ⊢
        by_cases c3 : (rd b (p : Int) = 0 ∧ 0 < i) ∨ n + rd b (p : Int) % 128 * 128 ^ i > 1000000000
        · rw [if_pos c3] at h; simp at h
        · rw [if_neg c3]
          have hx : ((rd b (p : Int)).toNat : Int) = rd b (p : Int) := by omega
          refine ⟨(rd b (p : Int)).toNat, ?_, ?_, ?_⟩
          · simp only; rw [hx, Int.emod_eq_of_lt (by omega) c2]
          · simp only; rw [encN_small (by omega), hx, hd, show ((p : Int) + 1).toNat = p + 1 by omega]; rfl
          · intro h0
            have h1 := (not_or.1 c3).1
            rcases Nat.eq_zero_or_pos i with e | e
            · exact e
            · exact absurd ⟨by omega, e⟩ h1
      · rw [if_neg c2] at h ⊢
        obtain ⟨m, h1, h2, h3⟩ := ih (p + 1) _ (i + 1) (by omega) h
        have hm : 0 < m := by
          rcases Nat.eq_zero_or_pos m with e | e
          · exact absurd (h3 e) (by omega)
          · exact e
        obtain ⟨y, hy⟩ : ∃ y : Nat, rd b (p : Int) = ((y + 128 : Nat) : Int) := ⟨(rd b (p : Int) - 128).toNat, by omega⟩
        have hy2 : y < 128 := by omega
        refine ⟨y + 128 * m, ?_, ?_, fun e => by omega⟩
        · rw [h1, hy, Int.pow_succ]
          have e1 : ((y + 128 : Nat) : Int) % 128 = (y : Int) := by omega
          have e2 : ((y + 128 * m : Nat) : Int) * 128 ^ i = (y : Int) * 128 ^ i + (m : Int) * (128 ^ i * 128) := by
            rw [show ((y + 128 * m : Nat) : Int) = (y : Int) + (m : Int) * 128 by omega, Int.add_mul, Int.mul_assoc, Int.mul_comm 128]
          rw [e1, e2]
          omega
        · rw [encN_big (by omega), show (y + 128 * m) % 128 + 128 = y + 128 by omega, show (y + 128 * m) / 128 = m by omega, hd, h2, hy]
          rfl
    · rw [if_neg c1] at h; simp at h
theorem clampN_nat {m : Nat} (h : m ≤ 1000000000) : clampN (m : Int) = m := by
  unfold clampN
  rw [if_neg (by omega), if_neg (by omega)]
  omega
theorem getNumM_canon {b : List Int} (hb : By b) {a : Int} (h : (getNumM b a).2.2 = true) : b.take (getNumM b a).2.1.toNat = putNumM (b.take a.toNat) (getNumM b a).1 := by
  have ho := getNumM_ok hb h
  have e : getNumM b a = gnM b 5 a.toNat 0 0 := by unfold getNumM; rw [if_pos ho.2.2.1]
  rw [e] at h ho ⊢
  obtain ⟨m, h1, h2, _⟩ := gnM_canon hb 5 a.toNat 0 0 rfl h
  have h1' : (gnM b 5 a.toNat 0 0).1 = (m : Int) := by rw [h1]; simp
  generalize gnM b 5 a.toNat 0 0 = t at *
  rw [h1']
  unfold putNumM
  rw [clampN_nat (by omega)]
  refine List.append_cancel_right (bs := b.drop t.2.1.toNat) ?_
  rw [List.take_append_drop, List.append_assoc, ← h2, List.take_append_drop]
/-- A text that is read is written as it stood. -/
theorem getTextM_canon {b : List Int} (hb : By b) {a : Int} (h : (getTextM b a).2.2 = true) :
    b.take (getTextM b a).2.1.toNat = putTextM (b.take a.toNat) (getTextM b a).1 ∧ 0 ≤ a ∧ a + (getTextM b a).1.size ≤ (getTextM b a).2.1 ∧ (getTextM b a).2.1 ≤ b.length := by
  unfold getTextM at h ⊢
  by_cases c : (getNumM b a).2.2 = true
  · have ho := getNumM_ok hb c
    have hn := getNumM_canon hb c
    rw [if_pos c] at h ⊢
    by_cases c2 : (getNumM b a).1 > b.length - (getNumM b a).2.1
    · rw [if_pos c2] at h; simp at h
    · rw [if_neg c2]
      generalize getNumM b a = t at *
      have hz : (strOfNums ((b.take (t.2.1 + t.1).toNat).drop t.2.1.toNat)).size = t.1.toNat := by
        rw [strOfNums_size, List.length_drop, List.length_take]
        omega
      refine ⟨?_, ho.2.2.1, ?_, ?_⟩
      · simp only
        unfold putTextM
        rw [hz, show ((t.1.toNat : Nat) : Int) = t.1 by omega, ← hn, gto_bytes ((hb.take _).drop _)]
        have e : b.take t.2.1.toNat = (b.take (t.2.1 + t.1).toNat).take t.2.1.toNat := by rw [List.take_take, Nat.min_eq_left (by omega)]
        rw [e, List.take_append_drop]
      · simp only; rw [hz]; omega
      · simp only; omega
  · rw [if_neg c] at h; simp at h
theorem getNumM_at {b : List Int} (hb : By b) (hl : b.length ≤ 140737488355328) {a : Int} : -9223372036854775808 ≤ (getNumM b a).2.1 ∧ (getNumM b a).2.1 ≤ 9223372036854775807 := by
  by_cases c : (getNumM b a).2.2 = true
  · have h := getNumM_ok hb c
    omega
  · rw [getNumM_no (by simpa using c)]; simp only; omega
theorem getTextM_at2 {b : List Int} (hb : By b) (hl : b.length ≤ 140737488355328) {a : Int} : -9223372036854775808 ≤ (getTextM b a).2.1 ∧ (getTextM b a).2.1 ≤ 9223372036854775807 := by
  unfold getTextM
  by_cases c : (getNumM b a).2.2 = true
  · have h := getNumM_ok hb c
    rw [if_pos c]
    split
    · simp only; omega
    · simp only; omega
  · rw [if_neg c]; simp only; omega
/-- The orders read from a place on: orders left, place, orders so far; whether all could be read. -/
def rdOps (b : List Int) : Nat → Int → List S84 → List S84 × Int × Bool
  | 0, p, acc => (acc, p, true)
  | d + 1, p, acc =>
    if (getNumM b p).2.2 = true then
      if (getTextM b (getNumM b p).2.1).2.2 = true then
        if (getTextM b (getTextM b (getNumM b p).2.1).2.1).2.2 = true then
          rdOps b d (getTextM b (getTextM b (getNumM b p).2.1).2.1).2.1 (acc ++ [⟨(getNumM b p).1, (getTextM b (getNumM b p).2.1).1, (getTextM b (getTextM b (getNumM b p).2.1).2.1).1⟩])
        else ([], 0, false)
      else ([], 0, false)
    else ([], 0, false)
def finM (b : List Int) (r : List S84 × Int × Bool) : List S84 × Bool :=
  if r.2.2 = true ∧ r.2.1 = b.length ∧ ookM r.1 r.1.length 0 = true then (r.1, true) else ([], false)
def getOpsM (b : List Int) : List S84 × Bool :=
  if (getNumM b 0).2.2 = true then
    if (getNumM b 0).1 > 8 then ([], false) else finM b (rdOps b (getNumM b 0).1.toNat (getNumM b 0).2.1 [])
  else ([], false)
def FewO (b : List Int) (l : List S84) : Prop := ∀ o ∈ l, o.f1.size + o.f2.size ≤ b.length
theorem FewO.app {b : List Int} {l : List S84} {o : S84} (h : FewO b l) (k : o.f1.size + o.f2.size ≤ b.length) : FewO b (l ++ [o]) := fun x hx => by
  rcases List.mem_append.1 hx with h1 | h1
  · exact h x h1
  · rw [List.mem_singleton.1 h1]; exact k
theorem rdOps_ok {b : List Int} (hb : By b) (h0 : List Int) : ∀ (d : Nat) (p : Int) (acc : List S84), 0 ≤ p → p ≤ b.length → FewO b acc → (rdOps b d p acc).2.2 = true →
    (rdOps b d p acc).1.length = acc.length + d ∧ 0 ≤ (rdOps b d p acc).2.1 ∧ (rdOps b d p acc).2.1 ≤ b.length ∧ FewO b (rdOps b d p acc).1 ∧ (b.take p.toNat = popsM h0 acc → b.take (rdOps b d p acc).2.1.toNat = popsM h0 (rdOps b d p acc).1) := by
  intro d
  induction d with
  | zero => intro p acc h1 h2 h3 _; exact ⟨rfl, h1, h2, h3, fun h => h⟩
  | succ d ih =>
    intro p acc h1 h2 h3 h
    unfold rdOps at h ⊢
    by_cases c1 : (getNumM b p).2.2 = true
    · have o1 := getNumM_ok hb c1
      have k1 := getNumM_canon hb c1
      rw [if_pos c1] at h ⊢
      generalize getNumM b p = t at *
      by_cases c2 : (getTextM b t.2.1).2.2 = true
      · obtain ⟨k2, o2⟩ := getTextM_canon hb c2
        rw [if_pos c2] at h ⊢
        generalize getTextM b t.2.1 = u at *
        by_cases c3 : (getTextM b u.2.1).2.2 = true
        · obtain ⟨k3, o3⟩ := getTextM_canon hb c3
          rw [if_pos c3] at h ⊢
          generalize getTextM b u.2.1 = v at *
          obtain ⟨r1, r2, r3, r4, r5⟩ := ih v.2.1 (acc ++ [⟨t.1, u.1, v.1⟩]) (by omega) (by omega) (h3.app (by show u.1.size + v.1.size ≤ _; omega)) h
          refine ⟨by rw [r1, List.length_append, List.length_singleton]; omega, r2, r3, r4, fun hp => r5 ?_⟩
          rw [k3, k2, k1, hp]
          unfold popsM
          rw [List.foldl_append]
          rfl
        · rw [if_neg c3] at h; simp at h
      · rw [if_neg c2] at h; simp at h
    · rw [if_neg c1] at h; simp at h
theorem spec_GetOps_loop (b : List Int) (hb : By b) (hl : b.length ≤ 140737488355328) (n : Nat) (hn : n ≤ 8) : ∀ (d i : Nat) (p : Int) (acc : List S84), n - i = d → i ≤ n → 0 ≤ p → p ≤ b.length → acc.length = i → FewO b acc →
    Ev (fun k => spec_GetOps.l0 k b [] (n : Int) p acc (i : Int)) (finM b (rdOps b d p acc)) := by
  intro d
  induction d with
  | zero =>
    intro i p acc hd hi h1 h2 h3 h4
    obtain ⟨K, e⟩ := Ev.get (spec_OpsOk_ev acc (by omega) (fun o ho => by have := h4 o ho; omega))
    refine ⟨K + 1, fun k hk => ?_⟩
    obtain ⟨k, rfl⟩ : ∃ j, k = j + 1 := ⟨k - 1, by omega⟩
    show spec_GetOps.l0 (k + 1) _ _ _ _ _ _ = _
    simp only [spec_GetOps.l0]
    rw [if_neg (by omega), e _ (by omega), Option.bind_some]
    unfold finM rdOps
    by_cases c : p = (b.length : Int)
    · rw [if_pos c]
      by_cases c2 : ookM acc acc.length 0 = true
      · rw [if_pos c2, if_pos ⟨rfl, c, c2⟩]
      · rw [if_neg c2, if_neg (fun h => c2 h.2.2)]
    · rw [if_neg c, if_neg (fun h => c h.2.1)]
  | succ d ih =>
    intro i p acc hd hi h1 h2 h3 h4
    obtain ⟨K1, e1⟩ := Ev.get (spec_GetNum_ev b hb hl p ⟨by omega, by omega⟩)
    obtain ⟨K2, e2⟩ := Ev.get (spec_GetText_ev b hb hl (getNumM b p).2.1 (getNumM_at hb hl))
    obtain ⟨K3, e3⟩ := Ev.get (spec_GetText_ev b hb hl (getTextM b (getNumM b p).2.1).2.1 (getTextM_at2 hb hl))
    have hrec : (getNumM b p).2.2 = true → (getTextM b (getNumM b p).2.1).2.2 = true → (getTextM b (getTextM b (getNumM b p).2.1).2.1).2.2 = true →
        Ev (fun k => spec_GetOps.l0 k b [] (n : Int) (getTextM b (getTextM b (getNumM b p).2.1).2.1).2.1 (acc ++ [⟨(getNumM b p).1, (getTextM b (getNumM b p).2.1).1, (getTextM b (getTextM b (getNumM b p).2.1).2.1).1⟩]) ((i + 1 : Nat) : Int)) (finM b (rdOps b (d + 1) p acc)) := by
      intro c1 c2 c3
      have o1 := getNumM_ok hb c1
      obtain ⟨_, o2⟩ := getTextM_canon hb c2
      obtain ⟨_, o3⟩ := getTextM_canon hb c3
      have hh := ih (i + 1) (getTextM b (getTextM b (getNumM b p).2.1).2.1).2.1 (acc ++ [⟨(getNumM b p).1, (getTextM b (getNumM b p).2.1).1, (getTextM b (getTextM b (getNumM b p).2.1).2.1).1⟩]) (by omega) (by omega) (by omega) (by omega)
        (by rw [List.length_append, List.length_singleton]; omega) (h4.app (by show (getTextM b (getNumM b p).2.1).1.size + (getTextM b (getTextM b (getNumM b p).2.1).2.1).1.size ≤ _; omega))
      refine hh.cast ?_
      rw [rdOps, if_pos c1, if_pos c2, if_pos c3]
    by_cases c1 : (getNumM b p).2.2 = true
    · by_cases c2 : (getTextM b (getNumM b p).2.1).2.2 = true
      · by_cases c3 : (getTextM b (getTextM b (getNumM b p).2.1).2.1).2.2 = true
        · obtain ⟨K4, e4⟩ := Ev.get (hrec c1 c2 c3)
          refine ⟨K1 + K2 + K3 + K4 + 1, fun k hk => ?_⟩
          obtain ⟨k, rfl⟩ : ∃ j, k = j + 1 := ⟨k - 1, by omega⟩
          have hx := e4 k (by omega)
          show spec_GetOps.l0 (k + 1) _ _ _ _ _ _ = _
          simp only [spec_GetOps.l0]
          rw [if_pos (by omega), e1 _ (by omega), Option.bind_some, e2 _ (by omega), Option.bind_some, e3 _ (by omega), Option.bind_some, if_pos c1, if_pos c2, if_pos c3, if_pos (by omega), w64 (by omega) (by omega)]
          exact hx
        · refine ⟨K1 + K2 + K3 + 1, fun k hk => ?_⟩
          obtain ⟨k, rfl⟩ : ∃ j, k = j + 1 := ⟨k - 1, by omega⟩
          show spec_GetOps.l0 (k + 1) _ _ _ _ _ _ = _
          simp only [spec_GetOps.l0]
          rw [if_pos (by omega), e1 _ (by omega), Option.bind_some, e2 _ (by omega), Option.bind_some, e3 _ (by omega), Option.bind_some, if_pos c1, if_pos c2, if_neg c3]
          rw [rdOps, if_pos c1, if_pos c2, if_neg c3, finM, if_neg (by simp)]
      · refine ⟨K1 + K2 + K3 + 1, fun k hk => ?_⟩
        obtain ⟨k, rfl⟩ : ∃ j, k = j + 1 := ⟨k - 1, by omega⟩
        show spec_GetOps.l0 (k + 1) _ _ _ _ _ _ = _
        simp only [spec_GetOps.l0]
        rw [if_pos (by omega), e1 _ (by omega), Option.bind_some, e2 _ (by omega), Option.bind_some, e3 _ (by omega), Option.bind_some, if_pos c1, if_neg c2]
        rw [rdOps, if_pos c1, if_neg c2, finM, if_neg (by simp)]
    · refine ⟨K1 + K2 + K3 + 1, fun k hk => ?_⟩
      obtain ⟨k, rfl⟩ : ∃ j, k = j + 1 := ⟨k - 1, by omega⟩
      show spec_GetOps.l0 (k + 1) _ _ _ _ _ _ = _
      simp only [spec_GetOps.l0]
      rw [if_pos (by omega), e1 _ (by omega), Option.bind_some, e2 _ (by omega), Option.bind_some, e3 _ (by omega), Option.bind_some, if_neg c1]
      rw [rdOps, if_neg c1, finM, if_neg (by simp)]
theorem spec_GetOps_ev (b : List Int) (hb : By b) (hl : b.length ≤ 140737488355328) : Ev (fun k => spec_GetOps.f k b) (getOpsM b) := by
  obtain ⟨K1, e1⟩ := Ev.get (spec_GetNum_ev b hb hl 0 ⟨by omega, by omega⟩)
  unfold getOpsM
  by_cases c1 : (getNumM b 0).2.2 = true
  · have o1 := getNumM_ok hb c1
    by_cases c2 : (getNumM b 0).1 > 8
    · refine ⟨K1 + 1, fun k hk => ?_⟩
      obtain ⟨k, rfl⟩ : ∃ j, k = j + 1 := ⟨k - 1, by omega⟩
      show spec_GetOps.f (k + 1) _ = _
      unfold spec_GetOps.f
      rw [Option.bind_some, e1 _ (by omega), Option.bind_some, if_pos c1, if_pos c1, if_pos c2]
      simp only [spec_GetOps.j0]
      rw [if_pos (decide_eq_true c2)]
    · obtain ⟨n, hn⟩ := Int.eq_ofNat_of_zero_le o1.1
      obtain ⟨K2, e2⟩ := Ev.get (spec_GetOps_loop b hb hl n (by omega) n 0 (getNumM b 0).2.1 [] (by omega) (by omega) (by omega) (by omega) rfl (fun _ h => by cases h))
      refine ⟨K1 + K2 + 1, fun k hk => ?_⟩
      obtain ⟨k, rfl⟩ : ∃ j, k = j + 1 := ⟨k - 1, by omega⟩
      have hx := e2 k (by omega)
      show spec_GetOps.f (k + 1) _ = _
      unfold spec_GetOps.f
      rw [Option.bind_some, e1 _ (by omega), Option.bind_some, if_pos c1, if_pos c1, if_neg c2]
      simp only [spec_GetOps.j0]
      rw [if_neg (by simpa using c2), hn, Int.toNat_natCast]
      exact hx
  · refine ⟨K1 + 1, fun k hk => ?_⟩
    obtain ⟨k, rfl⟩ : ∃ j, k = j + 1 := ⟨k - 1, by omega⟩
    show spec_GetOps.f (k + 1) _ = _
    unfold spec_GetOps.f
    rw [Option.bind_some, e1 _ (by omega), Option.bind_some, if_neg c1, if_neg c1]
    simp only [spec_GetOps.j0]
    rw [if_pos trivial]
/-! ### the program's -/
theorem go_num_ev (b : List Int) (hb : By b) (hl : b.length ≤ 140737488355328) (p : Int) (hp : 0 ≤ p ∧ p ≤ b.length) (bad : Bool) : Ev (fun k => go_num k b p bad) (if (bad || !(getNumM b p).2.2) = true then (0, p, true) else ((getNumM b p).1, (getNumM b p).2.1, bad)) := by
  obtain ⟨K, e⟩ := Ev.get (impl_GetNum_ev b hb hl p ⟨by omega, by omega⟩)
  refine ⟨K, fun k hk => ?_⟩
  show go_num k b p bad = _
  unfold go_num
  rw [e k hk, Option.bind_some]
  split <;> rfl
theorem go_text_ev (b : List Int) (hb : By b) (hl : b.length ≤ 140737488355328) (p : Int) (hp : 0 ≤ p ∧ p ≤ b.length) (bad : Bool) : Ev (fun k => go_text k b p bad) (if (bad || !(getTextM b p).2.2) = true then (⟨#[]⟩, p, true) else ((getTextM b p).1, (getTextM b p).2.1, bad)) := by
  obtain ⟨K, e⟩ := Ev.get (impl_GetText_ev b hb hl p ⟨by omega, by omega⟩)
  refine ⟨K, fun k hk => ?_⟩
  show go_text k b p bad = _
  unfold go_text
  rw [e k hk, Option.bind_some]
  split <;> rfl
/-- One order read. -/
theorem go_ops_step (b : List Int) (d : Nat) (p : Int) (bad : Bool) (acc : List S84) (ha : acc.length < 1000) {x1 : Int} {p1 p2 p3 : Int} {x2 x3 : ByteArray} {b1 b2 b3 : Bool} {r : List S84 × Int × Bool}
    (h1 : Ev (fun k => go_num k b p bad) (x1, p1, b1)) (h2 : Ev (fun k => go_text k b p1 b1) (x2, p2, b2)) (h3 : Ev (fun k => go_text k b p2 b2) (x3, p3, b3)) (h4 : Ev (fun k => go_ops k b d p3 b3 (acc ++ [⟨x1, x2, x3⟩])) r) :
    Ev (fun k => go_ops k b (d + 1) p bad acc) r := by
  obtain ⟨K1, e1⟩ := h1.get
  obtain ⟨K2, e2⟩ := h2.get
  obtain ⟨K3, e3⟩ := h3.get
  obtain ⟨K4, e4⟩ := h4.get
  refine ⟨K1 + K2 + K3 + K4, fun k hk => ?_⟩
  have f1 : go_num k b p bad = some (x1, p1, b1) := e1 k (by omega)
  have f2 : go_text k b p1 b1 = some (x2, p2, b2) := e2 k (by omega)
  have f3 : go_text k b p2 b2 = some (x3, p3, b3) := e3 k (by omega)
  show go_ops k b (d + 1) p bad acc = _
  unfold go_ops
  rw [f1, Option.bind_some]
  simp only
  rw [f2, Option.bind_some]
  simp only
  rw [f3, Option.bind_some, if_pos ha]
  exact e4 k (by omega)
theorem go_ops_bad (b : List Int) (hb : By b) (hl : b.length ≤ 140737488355328) : ∀ (d : Nat) (p : Int) (acc : List S84), 0 ≤ p → p ≤ b.length → acc.length + d ≤ 1000 → ∃ r q, Ev (fun k => go_ops k b d p true acc) (r, q, true) := by
  intro d
  induction d with
  | zero => intro p acc _ _ _; exact ⟨acc, p, Ev.now _⟩
  | succ d ih =>
    intro p acc h1 h2 h3
    have t1 := (go_num_ev b hb hl p ⟨h1, h2⟩ true).cast (if_pos (by simp))
    have t2 := (go_text_ev b hb hl p ⟨h1, h2⟩ true).cast (if_pos (by simp))
    obtain ⟨r, q, h⟩ := ih p (acc ++ [⟨0, ⟨#[]⟩, ⟨#[]⟩⟩]) h1 h2 (by rw [List.length_append, List.length_singleton]; omega)
    exact ⟨r, q, go_ops_step b d p true acc (by omega) t1 t2 t2 h⟩
theorem go_ops_ev (b : List Int) (hb : By b) (hl : b.length ≤ 140737488355328) : ∀ (d : Nat) (p : Int) (acc : List S84), 0 ≤ p → p ≤ b.length → acc.length + d ≤ 1000 → FewO b acc →
    ((rdOps b d p acc).2.2 = true ∧ Ev (fun k => go_ops k b d p false acc) ((rdOps b d p acc).1, (rdOps b d p acc).2.1, false)) ∨ ((rdOps b d p acc).2.2 = false ∧ ∃ r q, Ev (fun k => go_ops k b d p false acc) (r, q, true)) := by
  intro d
  induction d with
  | zero => intro p acc _ _ _ _; exact .inl ⟨rfl, Ev.now _⟩
  | succ d ih =>
    intro p acc h1 h2 h3 h4
    have hal : ∀ x : S84, (acc ++ [x]).length + d ≤ 1000 := fun x => by rw [List.length_append, List.length_singleton]; omega
    have t1 := go_num_ev b hb hl p ⟨h1, h2⟩ false
    by_cases c1 : (getNumM b p).2.2 = true
    · have o1 := getNumM_ok hb c1
      rw [if_neg (by rw [c1]; simp)] at t1
      have t2 := go_text_ev b hb hl (getNumM b p).2.1 ⟨by omega, by omega⟩ false
      by_cases c2 : (getTextM b (getNumM b p).2.1).2.2 = true
      · obtain ⟨_, o2⟩ := getTextM_canon hb c2
        rw [if_neg (by rw [c2]; simp)] at t2
        have t3 := go_text_ev b hb hl (getTextM b (getNumM b p).2.1).2.1 ⟨by omega, by omega⟩ false
        by_cases c3 : (getTextM b (getTextM b (getNumM b p).2.1).2.1).2.2 = true
        · obtain ⟨_, o3⟩ := getTextM_canon hb c3
          rw [if_neg (by rw [c3]; simp)] at t3
          have e : rdOps b (d + 1) p acc = rdOps b d (getTextM b (getTextM b (getNumM b p).2.1).2.1).2.1 (acc ++ [⟨(getNumM b p).1, (getTextM b (getNumM b p).2.1).1, (getTextM b (getTextM b (getNumM b p).2.1).2.1).1⟩]) := by
            rw [rdOps, if_pos c1, if_pos c2, if_pos c3]
          rw [e]
          rcases ih (getTextM b (getTextM b (getNumM b p).2.1).2.1).2.1 (acc ++ [⟨(getNumM b p).1, (getTextM b (getNumM b p).2.1).1, (getTextM b (getTextM b (getNumM b p).2.1).2.1).1⟩]) (by omega) (by omega) (hal _)
            (h4.app (by show (getTextM b (getNumM b p).2.1).1.size + (getTextM b (getTextM b (getNumM b p).2.1).2.1).1.size ≤ _; omega)) with ⟨g1, g2⟩ | ⟨g1, r, q, g2⟩
          · exact .inl ⟨g1, go_ops_step b d p false acc (by omega) t1 t2 t3 g2⟩
          · exact .inr ⟨g1, r, q, go_ops_step b d p false acc (by omega) t1 t2 t3 g2⟩
        · rw [if_pos (by simp [c3])] at t3
          obtain ⟨r, q, h⟩ := go_ops_bad b hb hl d (getTextM b (getNumM b p).2.1).2.1 (acc ++ [⟨(getNumM b p).1, (getTextM b (getNumM b p).2.1).1, ⟨#[]⟩⟩]) (by omega) (by omega) (hal _)
          exact .inr ⟨by rw [rdOps, if_pos c1, if_pos c2, if_neg c3], r, q, go_ops_step b d p false acc (by omega) t1 t2 t3 h⟩
      · rw [if_pos (by simp [c2])] at t2
        have t3 := (go_text_ev b hb hl (getNumM b p).2.1 ⟨by omega, by omega⟩ true).cast (if_pos (by simp))
        obtain ⟨r, q, h⟩ := go_ops_bad b hb hl d (getNumM b p).2.1 (acc ++ [⟨(getNumM b p).1, ⟨#[]⟩, ⟨#[]⟩⟩]) (by omega) (by omega) (hal _)
        exact .inr ⟨by rw [rdOps, if_pos c1, if_neg c2], r, q, go_ops_step b d p false acc (by omega) t1 t2 t3 h⟩
    · rw [if_pos (by simp [c1])] at t1
      have t3 := (go_text_ev b hb hl p ⟨h1, h2⟩ true).cast (if_pos (by simp))
      obtain ⟨r, q, h⟩ := go_ops_bad b hb hl d p (acc ++ [⟨0, ⟨#[]⟩, ⟨#[]⟩⟩]) h1 h2 (hal _)
      exact .inr ⟨by rw [rdOps, if_neg c1], r, q, go_ops_step b d p false acc (by omega) t1 t3 t3 h⟩
theorem gto_equal {x y : List Int} (hx : By x) (hy : By y) : ((strOfNums x).toList == (strOfNums y).toList) = decide (x = y) := by
  by_cases c : x = y
  · rw [c]; simp
  · rw [decide_eq_false c]
    have : (strOfNums x).toList ≠ (strOfNums y).toList := fun e => c (by
      have h1 : bytesOf (strOfNums x) = bytesOf (strOfNums y) := by unfold bytesOf; rw [← ByteArray.toList_eq, ← ByteArray.toList_eq, e]
      rw [gto_bytes hx, gto_bytes hy] at h1
      exact h1)
    simpa using this
theorem popsM_by (l : List S84) : ∀ b : List Int, By b → By (popsM b l) := by
  induction l with
  | nil => intro b h; exact h
  | cons o l ih => intro b h; exact ih _ (putTextM_by (putTextM_by (putNumM_by h _) _) _)
theorem impl_GetOps_ev (b : List Int) (hb : By b) (hl : b.length ≤ 1048576) : Ev (fun k => impl_GetOps.f k b) (getOpsM b) := by
  have t1 := go_num_ev b hb (by omega) 0 ⟨by omega, by omega⟩ false
  unfold getOpsM
  by_cases c1 : (getNumM b 0).2.2 = true
  · have o1 := getNumM_ok hb c1
    have k1 := getNumM_canon hb c1
    rw [if_neg (by rw [c1]; simp)] at t1
    obtain ⟨K1, e1⟩ := t1.get
    rw [if_pos c1]
    by_cases c2 : (getNumM b 0).1 > 8
    · rw [if_pos c2]
      refine ⟨K1, fun k hk => ?_⟩
      have f1 : go_num k b 0 false = _ := e1 k hk
      show impl_GetOps.f k b = _
      unfold impl_GetOps.f go_all
      rw [f1, Option.bind_some]
      simp only
      rw [if_pos c2, Option.bind_some, if_pos rfl]
    · rw [if_neg c2]
      rcases go_ops_ev b hb (by omega) (getNumM b 0).1.toNat (getNumM b 0).2.1 [] (by omega) (by omega) (by simp only [List.length_nil]; omega) (fun _ h => by cases h) with ⟨g1, g2⟩ | ⟨g1, r, q, g2⟩
      · have g3 := rdOps_ok hb (putNumM [] (getNumM b 0).1) (getNumM b 0).1.toNat (getNumM b 0).2.1 [] (by omega) (by omega) (fun _ h => by cases h) g1
        generalize rdOps b (getNumM b 0).1.toNat (getNumM b 0).2.1 [] = s at *
        obtain ⟨s1, s2, s3, s4, s5⟩ := g3
        simp only [List.length_nil, Nat.zero_add] at s1
        have s6 := s5 (by rw [k1]; simp [popsM])
        have hsz : ∀ o ∈ s.1, (o.f1.size : Int) + o.f2.size ≤ 1048576 := fun o ho => by have := s4 o ho; omega
        have hp0 := putNumM_len [] (getNumM b 0).1
        simp only [List.length_nil] at hp0
        obtain ⟨K2, e2⟩ := g2.get
        obtain ⟨K3, e3⟩ := Ev.get (impl_OpsOk_ev s.1 (by omega) (fun o ho => by have := s4 o ho; omega))
        obtain ⟨K4, e4⟩ := Ev.get (impl_putNum_ev [] (getNumM b 0).1 (by simp))
        obtain ⟨K5, e5⟩ := Ev.get (impl_putOps_loop s.1 (by omega) hsz s.1.length 0 (putNumM [] (getNumM b 0).1) (by omega) (by omega) (by omega))
        refine ⟨K1 + K2 + K3 + K4 + K5, fun k hk => ?_⟩
        have f1 : go_num k b 0 false = _ := e1 k (by omega)
        have f2 : go_ops k b (getNumM b 0).1.toNat (getNumM b 0).2.1 false [] = _ := e2 k (by omega)
        have f3 : impl_OpsOk.f k s.1 = _ := e3 k (by omega)
        have f4 : impl_putNum.f k [] (getNumM b 0).1 = _ := e4 k (by omega)
        have f5 : impl_putOps.l0 k (putNumM [] (getNumM b 0).1) s.1 (s.1.length : Int) ((0 : Nat) : Int) = _ := e5 k (by omega)
        show impl_GetOps.f k b = _
        unfold impl_GetOps.f go_all
        rw [f1, Option.bind_some]
        simp only
        rw [if_neg c2, f2, Option.bind_some]
        simp only
        rw [if_neg (by simp), f3, Option.bind_some]
        unfold finM
        by_cases c3 : ookM s.1 s.1.length 0 = true
        · rw [if_pos c3]
          have hbs : impl_putOps.f k [] s.1 = some (b.take s.2.1.toNat) := by
            unfold impl_putOps.f
            rw [show ((s.1.length : Nat) : Int) = (getNumM b 0).1 by omega, f4, Option.bind_some]
            rw [show ((s.1.length : Nat) : Int) = (getNumM b 0).1 by omega] at f5
            rw [s6]
            exact f5
          rw [hbs, Option.bind_some]
          unfold bytes_Equal.f
          rw [Option.bind_some, gto_equal (hb.take _) hb]
          by_cases c4 : s.2.1 = b.length
          · have hd : decide (b.take s.2.1.toNat = b) = true := decide_eq_true (by rw [c4, Int.toNat_natCast, List.take_length])
            rw [hd, if_pos rfl, if_pos ⟨g1, c4, c3⟩]
          · have hd : decide (b.take s.2.1.toNat = b) = false := decide_eq_false (fun h => by
              have h := congrArg List.length h
              rw [List.length_take] at h
              omega)
            rw [hd, if_neg (by simp), if_neg (fun h => c4 h.2.1)]
        · rw [if_neg c3, if_neg (fun h => c3 h.2.2)]
      · obtain ⟨K2, e2⟩ := g2.get
        refine ⟨K1 + K2, fun k hk => ?_⟩
        have f1 : go_num k b 0 false = _ := e1 k (by omega)
        have f2 : go_ops k b (getNumM b 0).1.toNat (getNumM b 0).2.1 false [] = _ := e2 k (by omega)
        show impl_GetOps.f k b = _
        unfold impl_GetOps.f go_all finM
        rw [f1, Option.bind_some]
        simp only
        rw [if_neg c2, f2, Option.bind_some, if_pos rfl, if_neg (by rw [g1]; simp)]
  · rw [if_pos (by simp [c1])] at t1
    obtain ⟨K1, e1⟩ := t1.get
    rw [if_neg c1]
    refine ⟨K1, fun k hk => ?_⟩
    have f1 : go_num k b 0 false = _ := e1 k hk
    show impl_GetOps.f k b = _
    unfold impl_GetOps.f go_all
    rw [f1, Option.bind_some]
    simp only
    rw [if_neg (by omega)]
    rfl
theorem getOpsM_len {b : List Int} (hb : By b) : (getOpsM b).1.length ≤ 8 := by
  unfold getOpsM
  split
  · rename_i c1
    have o1 := getNumM_ok hb c1
    split
    · simp
    · unfold finM
      split
      · rename_i h
        have := (rdOps_ok hb [] (getNumM b 0).1.toNat (getNumM b 0).2.1 [] (by omega) (by omega) (fun _ h => by cases h) h.1).1
        simp only [List.length_nil] at this ⊢
        omega
      · simp
  · simp
end Go.Proofs.Ytamkjoflkkffhaa.P
