/- Numbers and texts as bytes: what the program's and the reference's writers and readers compute. No condition but bounds on lengths. -/
import Derived.Test.YthkaifddpjjmaaaPlain
import Derived.Test.YthkaifddpjjmaaaPx10
import Derived.Test.YthkaifddpjjmaaaPx5
import Derived.Test.YthkaifddpjjmaaaPx8
namespace Go.Proofs.Ythkaifddpjjmaaa.P
open Go.RowKit Go.Proofs.YthkaifddpjjmaaaW.PrintWords Go.Proofs.YthkaifddpjjmaaaW.PrintLast Go.Proofs.YthkaifddpjjmaaaW.PrintMore
set_option linter.unusedVariables false
set_option linter.unusedSimpArgs false
/-! ### the model -/
/-- A number's bytes. -/
def encN (n : Nat) : List Int := if n > 127 then ((n % 128 + 128 : Nat) : Int) :: encN (n / 128) else [(n : Int)]
termination_by n
decreasing_by omega
theorem encN_big {n : Nat} (h : 127 < n) : encN n = ((n % 128 + 128 : Nat) : Int) :: encN (n / 128) := by
  rw [encN, if_pos h]
theorem encN_small {n : Nat} (h : n ≤ 127) : encN n = [(n : Int)] := by
  rw [encN, if_neg (by omega)]
theorem encN_by (n : Nat) : By (encN n) := by
  induction n using Nat.strongRecOn with
  | _ n ih =>
    by_cases h : 127 < n
    · rw [encN_big h]
      exact By.app (a := [_]) (By.one (by omega) (by omega)) (ih (n / 128) (by omega))
    · rw [encN_small (by omega)]
      exact By.one (by omega) (by omega)
theorem encN_pos (n : Nat) : 0 < (encN n).length := by
  by_cases h : 127 < n
  · rw [encN_big h]; simp
  · rw [encN_small (by omega)]; simp
theorem encN_len5 (n : Nat) (h : n ≤ 1000000000) : (encN n).length ≤ 5 := by
  by_cases h1 : 127 < n
  · rw [encN_big h1]
    by_cases h2 : 127 < n / 128
    · rw [encN_big h2]
      by_cases h3 : 127 < n / 128 / 128
      · rw [encN_big h3]
        by_cases h4 : 127 < n / 128 / 128 / 128
        · rw [encN_big h4]
          rw [encN_small (by omega)]
          simp
        · rw [encN_small (by omega)]; simp
      · rw [encN_small (by omega)]; simp
    · rw [encN_small (by omega)]; simp
  · rw [encN_small (by omega)]; simp
/-- The nearest number that is kept. -/
def clampN (n : Int) : Nat := if n > 1000000000 then 1000000000 else if n < 0 then 0 else n.toNat
theorem clampN_le (n : Int) : clampN n ≤ 1000000000 := by unfold clampN; (repeat' split) <;> omega
def putNumM (b : List Int) (n : Int) : List Int := b ++ encN (clampN n)
def putTextM (b : List Int) (s : ByteArray) : List Int := putNumM b s.size ++ bytesOf s
theorem putNumM_by {b : List Int} (h : By b) (n : Int) : By (putNumM b n) := By.app h (encN_by _)
theorem putTextM_by {b : List Int} (h : By b) (s : ByteArray) : By (putTextM b s) := By.app (putNumM_by h _) (By.bytesOf s)
theorem putNumM_len (b : List Int) (n : Int) : (putNumM b n).length ≤ b.length + 5 := by
  have := encN_len5 _ (clampN_le n)
  simp [putNumM]
  omega
theorem putTextM_len (b : List Int) (s : ByteArray) : (putTextM b s).length ≤ b.length + 5 + s.size := by
  have := putNumM_len b s.size
  simp [putTextM, bytesOf_length]
  omega
/-- What a number's reader answers: rounds left, place, number so far, groups so far. -/
def gnM (b : List Int) : Nat → Nat → Int → Nat → Int × Int × Bool
  | 0, _, _, _ => (0, 0, false)
  | f + 1, p, n, i =>
    if p < b.length then
      if rd b (p : Int) < 128 then
        if (rd b (p : Int) = 0 ∧ 0 < i) ∨ n + rd b (p : Int) % 128 * 128 ^ i > 1000000000 then (0, 0, false)
        else (n + rd b (p : Int) % 128 * 128 ^ i, (p : Int) + 1, true)
      else gnM b f (p + 1) (n + rd b (p : Int) % 128 * 128 ^ i) (i + 1)
    else (0, 0, false)
def getNumM (b : List Int) (at_ : Int) : Int × Int × Bool := if 0 ≤ at_ then gnM b 5 at_.toNat 0 0 else (0, 0, false)
def getTextM (b : List Int) (at_ : Int) : ByteArray × Int × Bool :=
  if (getNumM b at_).2.2 = true then
    if (getNumM b at_).1 > b.length - (getNumM b at_).2.1 then (⟨#[]⟩, 0, false)
    else (strOfNums ((b.take ((getNumM b at_).2.1 + (getNumM b at_).1).toNat).drop ((getNumM b at_).2.1).toNat), (getNumM b at_).2.1 + (getNumM b at_).1, true)
  else (⟨#[]⟩, 0, false)
theorem pow128 (i : Nat) (hi : i < 5) : (128 : Int) ^ i ≤ 268435456 ∧ 0 < (128 : Int) ^ i := by
  rcases (by omega : i = 0 ∨ i = 1 ∨ i = 2 ∨ i = 3 ∨ i = 4) with rfl | rfl | rfl | rfl | rfl <;> decide
/-- What is read is a number that is kept, behind its place. -/
theorem gnM_ok {b : List Int} (hb : By b) : ∀ (f p : Nat) (n : Int) (i : Nat), f + i = 5 → 0 ≤ n → n < 128 ^ i → (gnM b f p n i).2.2 = true →
    0 ≤ (gnM b f p n i).1 ∧ (gnM b f p n i).1 ≤ 1000000000 ∧ (p : Int) < (gnM b f p n i).2.1 ∧ (gnM b f p n i).2.1 ≤ b.length := by
  intro f
  induction f with
  | zero => intro p n i _ _ _ h; simp [gnM] at h
  | succ f ih =>
    intro p n i hf h0 h1 h
    have hr := hb.rd (p : Int)
    obtain ⟨hp1, hp2⟩ := pow128 i (by omega)
    unfold gnM at h ⊢
    by_cases c1 : p < b.length
    · rw [if_pos c1] at h ⊢
      by_cases c2 : rd b (p : Int) < 128
      · rw [if_pos c2] at h ⊢
        by_cases c3 : (rd b (p : Int) = 0 ∧ 0 < i) ∨ n + rd b (p : Int) % 128 * 128 ^ i > 1000000000
        · rw [if_pos c3] at h; simp at h
        · rw [if_neg c3]
          have hm : 0 ≤ rd b (p : Int) % 128 * 128 ^ i := Int.mul_nonneg (by omega) (by omega)
          refine ⟨?_, ?_, ?_, ?_⟩ <;> simp only <;> first | omega | (have := not_or.1 c3; omega)
      · rw [if_neg c2] at h ⊢
        have hm : 0 ≤ rd b (p : Int) % 128 * 128 ^ i := Int.mul_nonneg (by omega) (by omega)
        have hm2 : n + rd b (p : Int) % 128 * 128 ^ i < 128 ^ (i + 1) := by
          have h3 : rd b (p : Int) % 128 * 128 ^ i ≤ 127 * 128 ^ i := Int.mul_le_mul_of_nonneg_right (by omega) (by omega)
          rw [Int.pow_succ]
          omega
        have := ih (p + 1) _ (i + 1) (by omega) (by omega) hm2 h
        refine ⟨this.1, this.2.1, ?_, this.2.2.2⟩
        have := this.2.2.1
        omega
    · rw [if_neg c1] at h; simp at h
theorem getNumM_ok {b : List Int} (hb : By b) {a : Int} (h : (getNumM b a).2.2 = true) :
    0 ≤ (getNumM b a).1 ∧ (getNumM b a).1 ≤ 1000000000 ∧ 0 ≤ a ∧ a < (getNumM b a).2.1 ∧ (getNumM b a).2.1 ≤ b.length := by
  unfold getNumM at h ⊢
  by_cases c : 0 ≤ a
  · rw [if_pos c] at h ⊢
    have := gnM_ok hb 5 a.toNat 0 0 rfl (by omega) (by decide) h
    refine ⟨this.1, this.2.1, c, ?_, this.2.2.2⟩
    have := this.2.2.1
    omega
  · rw [if_neg c] at h; simp at h
theorem gnM_no (b : List Int) : ∀ (f p : Nat) (n : Int) (i : Nat), (gnM b f p n i).2.2 = false → gnM b f p n i = (0, 0, false) := by
  intro f
  induction f with
  | zero => intro p n i _; rfl
  | succ f ih =>
    intro p n i h
    unfold gnM at h ⊢
    split at h
    · split at h
      · split at h
        · rw [if_pos (by assumption), if_pos (by assumption), if_pos (by assumption)]
        · simp at h
      · rw [if_pos (by assumption), if_neg (by assumption)]
        exact ih _ _ _ h
    · rw [if_neg (by assumption)]
theorem getNumM_no {b : List Int} {a : Int} (h : (getNumM b a).2.2 = false) : getNumM b a = (0, 0, false) := by
  unfold getNumM at h ⊢
  split at h
  · rw [if_pos (by assumption)]; exact gnM_no _ _ _ _ _ h
  · rw [if_neg (by assumption)]
/-- What was written is read. -/
theorem gnM_enc (b : List Int) : ∀ (f p m : Nat) (n : Int) (i : Nat) (post : List Int), f + i = 5 → 0 ≤ n → n + (m : Int) * 128 ^ i ≤ 1000000000 → (m = 0 → i = 0) → b.drop p = encN m ++ post →
    gnM b f p n i = (n + m * 128 ^ i, (p : Int) + (encN m).length, true) := by
  intro f
  induction f with
  | zero =>
    intro p m n i post hf h0 h1 h2 h3
    obtain rfl : i = 5 := by omega
    exfalso
    have : m = 0 := by
      rcases Nat.eq_zero_or_pos m with h | h
      · exact h
      · exfalso
        have : (1 : Int) * 128 ^ 5 ≤ (m : Int) * 128 ^ 5 := Int.mul_le_mul_of_nonneg_right (by omega) (by decide)
        have : (128 : Int) ^ 5 = 34359738368 := by decide
        omega
    exact absurd (h2 this) (by omega)
  | succ f ih =>
    intro p m n i post hf h0 h1 h2 h3
    obtain ⟨hp1, hp2⟩ := pow128 i (by omega)
    have hlen : p < b.length := by
      have := congrArg List.length h3
      rw [List.length_drop, List.length_append] at this
      have := encN_pos m
      omega
    have hrd : ∀ (x : Int) (t : List Int), encN m ++ post = x :: t → rd b (p : Int) = x := by
      intro x t e
      rw [rd_nat b p hlen]
      have := h3.trans e
      rw [List.drop_eq_getElem_cons hlen] at this
      injection this
    unfold gnM
    rw [if_pos hlen]
    by_cases c : 127 < m
    · have e := encN_big c
      have hr := hrd _ _ (by rw [e]; rfl)
      have hm : ((m % 128 + 128 : Nat) : Int) % 128 = ((m % 128 : Nat) : Int) := by omega
      rw [hr, if_neg (by omega), hm]
      have hq : ((m % 128 : Nat) : Int) * 128 ^ i + ((m / 128 : Nat) : Int) * 128 ^ (i + 1) = (m : Int) * 128 ^ i := by
        rw [Int.pow_succ, Int.mul_comm ((128 : Int) ^ i) 128, ← Int.mul_assoc, ← Int.add_mul]
        congr 1
        omega
      rw [ih (p + 1) (m / 128) (n + ((m % 128 : Nat) : Int) * 128 ^ i) (i + 1) post (by omega) (by have : 0 ≤ ((m % 128 : Nat) : Int) * 128 ^ i := Int.mul_nonneg (by omega) (by omega); omega) (by omega) (by omega) (by
        have := congrArg (List.drop 1) h3
        rw [List.drop_drop, e, List.cons_append, List.drop_succ_cons, List.drop_zero] at this
        exact this)]
      rw [e, List.length_cons]
      refine Prod.ext ?_ (Prod.ext ?_ rfl) <;> simp only <;> omega
    · have e := encN_small (n := m) (by omega)
      have hr := hrd _ _ (by rw [e]; rfl)
      have hm : (m : Int) % 128 = m := by omega
      rw [hr, if_pos (by omega), hm, if_neg (by
        rintro (⟨h4, h5⟩ | h4)
        · have := h2 (by omega); omega
        · omega), e]
      rfl
theorem getNumM_put (pre post : List Int) (m : Nat) (h : m ≤ 1000000000) : getNumM (pre ++ encN m ++ post) (pre.length : Int) = ((m : Int), ((pre ++ encN m).length : Int), true) := by
  unfold getNumM
  rw [if_pos (by omega), Int.toNat_natCast, gnM_enc (pre ++ encN m ++ post) 5 pre.length m 0 0 post rfl (by omega) (by simp; omega) (fun _ => rfl) (by simp)]
  simp
/-! ### the program's functions, and the reference's -/
theorem or_enc (x : Nat) : (Go.bits .or .i64 128 (Go.bits .and .i64 (x : Int) 127)) % 256 = ((x % 128 + 128 : Nat) : Int) := by
  rw [i64_and127]
  have e : ((x : Int) % 128) = ((x % 128 : Nat) : Int) := by omega
  rw [e]
  have := i64_or_nat 128 (x % 128) (by omega) (by omega)
  rw [show (128 : Int) = ((128 : Nat) : Int) from rfl, this, nat_join 7 128 (x % 128) (by decide) (by omega)]
  omega
theorem or_enc' (x : Nat) : (Go.bits .or .i64 (Go.bits .and .i64 (x : Int) 127) 128) % 256 = ((x % 128 + 128 : Nat) : Int) := by
  rw [i64_and127]
  have e : ((x : Int) % 128) = ((x % 128 : Nat) : Int) := by omega
  rw [e]
  have := i64_or_nat (x % 128) 128 (by omega) (by omega)
  rw [show (128 : Int) = ((128 : Nat) : Int) from rfl, this, Nat.or_comm, nat_join 7 128 (x % 128) (by decide) (by omega)]
  omega
theorem impl_putNum_loop (n : Nat) : ∀ b : List Int, b.length + n < 140737488355328 → Ev (fun k => impl_putNum.l0 k b (n : Int)) (b ++ encN n) := by
  induction n using Nat.strongRecOn with
  | _ n ih =>
    intro b hb
    by_cases h : 127 < n
    · refine Ev.up ((ih (n / 128) (by omega) (b ++ [((n % 128 + 128 : Nat) : Int)]) (by simp; omega)).cast (by rw [encN_big h, List.append_assoc]; rfl)) (fun k hk => ?_)
      simp only [impl_putNum.l0]
      rw [if_pos (by omega), if_pos (by omega), or_enc, show (n : Int) / 128 = ((n / 128 : Nat) : Int) from rfl]
      exact hk
    · refine Ev.up (Ev.now (b ++ encN n)) (fun k _ => ?_)
      simp only [impl_putNum.l0]
      rw [if_neg (by omega), if_pos (by omega), encN_small (by omega), show (n : Int) % 256 = n by omega]
theorem impl_putNum_ev (b : List Int) (n : Int) (hb : b.length ≤ 100000000000000) : Ev (fun k => impl_putNum.f k b n) (putNumM b n) := by
  have h := impl_putNum_loop (clampN n) b (by have := clampN_le n; omega)
  have e : mx 0 (mn n 1000000000) = (clampN n : Int) := by
    unfold mx mn clampN
    repeat' split
    all_goals omega
  refine h.congr (fun k => ?_)
  unfold impl_putNum.f
  rw [e]
theorem clone_ev (b : List Int) (hb : b.length ≤ 100000000000000) : slices_Clone_byte_byte.f b = some b := by
  unfold slices_Clone_byte_byte.f
  rw [if_pos (by omega)]
theorem impl_putText_ev (b : List Int) (s : ByteArray) (hb : b.length ≤ 100000000000000) (hs : s.size ≤ 10000000000000) : Ev (fun k => impl_putText.f k b s) (putTextM b s) := by
  obtain ⟨K, hK⟩ := Ev.get (impl_putNum_ev b s.size hb)
  refine ⟨K, fun k hk => ?_⟩
  show impl_putText.f k b s = _
  unfold impl_putText.f
  have hl := putNumM_len b s.size
  rw [hK k hk, Option.bind_some, if_pos (by omega)]
  rfl
theorem spec_PutNum_loop (n : Nat) : ∀ b : List Int, b.length + n < 140737488355328 → Ev (fun k => spec_PutNum.l0 k (n : Int) b) (b ++ encN n) := by
  induction n using Nat.strongRecOn with
  | _ n ih =>
    intro b hb
    by_cases h : 127 < n
    · refine Ev.up ((ih (n / 128) (by omega) (b ++ [((n % 128 + 128 : Nat) : Int)]) (by simp; omega)).cast (by rw [encN_big h, List.append_assoc]; rfl)) (fun k hk => ?_)
      simp only [spec_PutNum.l0]
      rw [if_pos (by omega), if_pos (by omega), or_enc', show (n : Int) / 128 = ((n / 128 : Nat) : Int) from rfl]
      exact hk
    · refine Ev.up (Ev.now (b ++ encN n)) (fun k _ => ?_)
      simp only [spec_PutNum.l0]
      rw [if_neg (by omega), if_pos (by omega), encN_small (by omega), show (n : Int) % 256 = n by omega]
theorem spec_PutNum_ev (b : List Int) (n : Int) (hb : b.length ≤ 100000000000000) : Ev (fun k => spec_PutNum.f k b n) (putNumM b n) := by
  have h := spec_PutNum_loop (clampN n) b (by have := clampN_le n; omega)
  have h1 : Ev (fun k => spec_PutNum.j1 k (clampN n : Int) b) (putNumM b n) := Ev.up h (fun k hk => by simp only [spec_PutNum.j1]; exact hk)
  have h0 : Ev (fun k => if n > 1000000000 then spec_PutNum.j0 k 1000000000 b else spec_PutNum.j0 k n b) (putNumM b n) := by
    by_cases c : n > 1000000000
    · have e : (clampN n : Int) = 1000000000 := by unfold clampN; rw [if_pos c]; rfl
      rw [e] at h1
      refine (Ev.up (g := fun k => spec_PutNum.j0 k 1000000000 b) h1 (fun k hk => ?_)).congr (fun k => by rw [if_pos c])
      simp only [spec_PutNum.j0]
      rw [if_neg (by omega)]
      exact hk
    · refine (Ev.up (g := fun k => spec_PutNum.j0 k n b) h1 (fun k hk => ?_)).congr (fun k => by rw [if_neg c])
      simp only [spec_PutNum.j0]
      by_cases c2 : n < 0
      · have e : (clampN n : Int) = 0 := by unfold clampN; rw [if_neg c, if_pos c2]; rfl
        rw [e] at hk
        rw [if_pos c2]
        exact hk
      · have e : (clampN n : Int) = n := by unfold clampN; rw [if_neg c, if_neg c2]; omega
        rw [e] at hk
        rw [if_neg c2]
        exact hk
  refine h0.congr (fun k => ?_)
  unfold spec_PutNum.f
  simp only [Option.bind_some, List.nil_append, List.length_nil]
  rw [if_pos (by omega)]
theorem spec_PutText_ev (b : List Int) (s : ByteArray) (hb : b.length ≤ 100000000000000) (hs : s.size ≤ 10000000000000) : Ev (fun k => spec_PutText.f k b s) (putTextM b s) := by
  obtain ⟨K, hK⟩ := Ev.get (spec_PutNum_ev b s.size hb)
  refine ⟨K, fun k hk => ?_⟩
  show spec_PutText.f k b s = _
  unfold spec_PutText.f
  have hl := putNumM_len b s.size
  rw [hK k hk, Option.bind_some, if_pos (by omega)]
  rfl
end Go.Proofs.Ythkaifddpjjmaaa.P
