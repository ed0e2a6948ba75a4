/- The way up from a pair to a root: the program's and the reference's answer what the model answers. No condition but bounds on lengths. -/
import Derived.Test.YthkaifddpjjmaaaSizes
import Derived.Test.YthkaifddpjjmaaaTree
import Derived.Test.YthkaifddpjjmaaaLists
import Derived.Test.YthkaifddpjjmaaaPx0
import Derived.Test.YthkaifddpjjmaaaPx10
import Derived.Test.YthkaifddpjjmaaaPx12
import Derived.Test.YthkaifddpjjmaaaPx13
import Derived.Test.YthkaifddpjjmaaaPx15
import Derived.Test.YthkaifddpjjmaaaPx7
namespace Go.Proofs.Ythkaifddpjjmaaa.P
open Go.RowKit Go.Proofs.YthkaifddpjjmaaaW.PrintWords Go.Proofs.YthkaifddpjjmaaaW.PrintLast Go.Proofs.YthkaifddpjjmaaaW.PrintMore
set_option linter.unusedVariables false
set_option linter.unusedSimpArgs false
theorem bytesOf_strOfNums {l : List Int} (h : By l) : bytesOf (strOfNums l) = l := by
  unfold bytesOf strOfNums
  simp only [List.map_map]
  conv => rhs; rw [← List.map_id l]
  apply List.map_congr_left
  intro x hx
  have := h x hx
  simp only [Function.comp_apply, id_eq]
  rw [UInt8.toNat_ofNat_of_lt' (by simp [UInt8.size]; omega)]
  omega
/-- The last of what is hashed. -/
def lastL (l : List (List Int)) : List Int := l.getLast?.getD []
def lastS (l : List ByteArray) : ByteArray := l.getLast?.getD ByteArray.empty
def climbR (leaf : List Int) (n i : Nat) (path : List ByteArray) : List (List Int) × Bool :=
  if h : 2 ≤ n then
    if path.length = 0 then ([], false)
    else if i < halfM n then
      if (climbR leaf (halfM n) i (path.take (path.length - 1))).2 = true then
        ((climbR leaf (halfM n) i (path.take (path.length - 1))).1 ++ [nodeB (digM (lastL (climbR leaf (halfM n) i (path.take (path.length - 1))).1)) (lastS path)], true)
      else ([], false)
    else
      if (climbR leaf (n - halfM n) (i - halfM n) (path.take (path.length - 1))).2 = true then
        ((climbR leaf (n - halfM n) (i - halfM n) (path.take (path.length - 1))).1 ++ [nodeB (lastS path) (digM (lastL (climbR leaf (n - halfM n) (i - halfM n) (path.take (path.length - 1))).1))], true)
      else ([], false)
  else ([leaf], path.length == 0)
termination_by n
decreasing_by all_goals (have := halfM_lt h; omega)
def wayR (leaf : List Int) (n i : Nat) (path : List ByteArray) : List (List Int) × Bool :=
  if (climbR leaf n i path).2 = true then ((climbR leaf n i path).1 ++ [topB n (digM (lastL (climbR leaf n i path).1))], true) else ([], false)
def checkM (leaf : List Int) (i n : Int) (path : List ByteArray) (root : ByteArray) : Bool :=
  if (1 ≤ n ∧ n ≤ 60) ∧ 0 ≤ i ∧ i < n then
    (if (wayR leaf n.toNat i.toNat path).2 = true then (digM (lastL (wayR leaf n.toNat i.toNat path).1)).toList == root.toList else false)
  else false
/-- No text is great. -/
def FewS (l : List ByteArray) : Prop := ∀ s ∈ l, s.size ≤ 10000000
/-- What is hashed: there is some, of bytes, not great. -/
def Ways (l : List (List Int)) : Prop := ∀ x ∈ l, By x ∧ x.length ≤ 100000000
theorem FewS.take {l : List ByteArray} (h : FewS l) (n : Nat) : FewS (l.take n) := fun p hp => h p (List.mem_of_mem_take hp)
theorem lastS_few {l : List ByteArray} (h : FewS l) : (lastS l).size ≤ 10000000 := by
  unfold lastS
  cases hl : l.getLast? with
  | none => show ByteArray.empty.size ≤ _; simp
  | some s => exact h s (List.mem_of_getLast? hl)
theorem lastL_ways {l : List (List Int)} (h : Ways l) : By (lastL l) ∧ (lastL l).length ≤ 100000000 := by
  unfold lastL
  cases hl : l.getLast? with
  | none => exact ⟨By.nil, by simp⟩
  | some s => exact h s (List.mem_of_getLast? hl)
theorem Ways.snoc {l : List (List Int)} (h : Ways l) {x : List Int} (hb : By x) (hl : x.length ≤ 100000000) : Ways (l ++ [x]) := fun y hy => by
  rcases List.mem_append.1 hy with h1 | h1
  · exact h y h1
  · rw [List.mem_singleton.1 h1]; exact ⟨hb, hl⟩
theorem climbR_ok {leaf : List Int} (hb : By leaf) (hl : leaf.length ≤ 100000000) : ∀ (n i : Nat) (path : List ByteArray), FewS path →
    Ways (climbR leaf n i path).1 ∧ (climbR leaf n i path).1.length ≤ n + 1 ∧ ((climbR leaf n i path).2 = true → 0 < (climbR leaf n i path).1.length) := by
  intro n
  induction n using Nat.strongRecOn with
  | _ n ih =>
    intro i path hp
    rw [climbR]
    by_cases h : 2 ≤ n
    · have hh := halfM_lt h
      rw [dif_pos h]
      by_cases h0 : path.length = 0
      · rw [if_pos h0]
        exact ⟨fun _ hx => absurd hx (List.not_mem_nil), by simp, fun e => by simp at e⟩
      · rw [if_neg h0]
        have hs := lastS_few hp
        by_cases hi : i < halfM n
        · rw [if_pos hi]
          obtain ⟨i1, i2, i3⟩ := ih (halfM n) (by omega) i _ (hp.take (path.length - 1))
          generalize climbR leaf (halfM n) i (path.take (path.length - 1)) = r at *
          by_cases hr : r.2 = true
          · rw [if_pos hr]
            have hd := digM_size (lastL r.1)
            exact ⟨i1.snoc (nodeB_by _ _) (by rw [nodeB_length]; omega), by simp; omega, fun _ => by simp⟩
          · rw [if_neg hr]
            exact ⟨fun _ hx => absurd hx (List.not_mem_nil), by simp, fun e => by simp at e⟩
        · rw [if_neg hi]
          obtain ⟨i1, i2, i3⟩ := ih (n - halfM n) (by omega) (i - halfM n) _ (hp.take (path.length - 1))
          generalize climbR leaf (n - halfM n) (i - halfM n) (path.take (path.length - 1)) = r at *
          by_cases hr : r.2 = true
          · rw [if_pos hr]
            have hd := digM_size (lastL r.1)
            exact ⟨i1.snoc (nodeB_by _ _) (by rw [nodeB_length]; omega), by simp; omega, fun _ => by simp⟩
          · rw [if_neg hr]
            exact ⟨fun _ hx => absurd hx (List.not_mem_nil), by simp, fun e => by simp at e⟩
    · rw [dif_neg h]
      exact ⟨fun x hx => by rw [List.mem_singleton.1 hx]; exact ⟨hb, hl⟩, by simp, fun _ => by simp⟩
theorem rd_last (path : List ByteArray) (h : 0 < path.length) : rdOf ByteArray.empty path (wrap64 ((path.length : Int) - 1)) = lastS path ∨ ¬ path.length ≤ 1000000000000 := by
  by_cases hb : path.length ≤ 1000000000000
  · left
    rw [w64 (by omega) (by omega), show (path.length : Int) - 1 = ((path.length - 1 : Nat) : Int) by omega, rdOf_nat path _ (by omega)]
    unfold lastS
    rw [List.getLast?_eq_getElem?, List.getElem?_eq_getElem (by omega)]
    rfl
  · exact .inr hb
theorem rd_last' (path : List ByteArray) (h : 0 < path.length) (hb : path.length ≤ 1000000000000) : rdOf ByteArray.empty path ((path.length - 1 : Nat) : Int) = lastS path := by
  rw [rdOf_nat path _ (by omega)]
  unfold lastS
  rw [List.getLast?_eq_getElem?, List.getElem?_eq_getElem (by omega)]
  rfl
theorem lastS_map {l : List (List Int)} (h : 0 < l.length) : lastS (l.map strOfNums) = strOfNums (lastL l) := by
  unfold lastS lastL
  rw [List.getLast?_map]
  cases hl : l.getLast? with
  | none => rw [List.getLast?_eq_none_iff] at hl; subst hl; simp at h
  | some s => rfl
theorem rdL2_last (l : List (List Int)) (h : 0 < l.length) : rd_L4 l ((l.length - 1 : Nat) : Int) = lastL l := by
  unfold rd_L4 lastL
  rw [List.getLast?_eq_getElem?]
  simp [List.getD_eq_getElem?_getD]
theorem impl_climb_ev (a b : ByteArray) (ha : a.size ≤ 10000000) (hb : b.size ≤ 10000000) : ∀ (n i : Nat) (path : List ByteArray), 1 ≤ n → n ≤ 1000 → i < n → FewS path → path.length ≤ 1000000000 →
    Ev (fun k => impl_climb.f k a b (i : Int) (n : Int) path) (climbR (leafB a b) n i path) := by
  have hlb := leafB_by a b
  have hll := leafB_len a b
  intro n
  induction n using Nat.strongRecOn with
  | _ n ih =>
    intro i path h1 hn hi hp hpl
    rw [climbR]
    by_cases h : 2 ≤ n
    · have hh := halfM_lt h
      rw [dif_pos h]
      by_cases h0 : path.length = 0
      · rw [if_pos h0]
        refine Ev.up (Ev.now _) (fun k _ => ?_)
        simp only [impl_climb.f]
        rw [if_neg (by omega), w64 (by omega) (by omega), if_pos (by omega)]
      · rw [if_neg h0]
        have hs := lastS_few hp
        have ew : wrap64 ((path.length : Int) - 1) = ((path.length - 1 : Nat) : Int) := by rw [w64 (by omega) (by omega)]; omega
        have hr := rd_last' path (by omega) (by omega)
        obtain ⟨K1, e1⟩ := Ev.get (impl_half_ev n (by omega) (by omega))
        by_cases hi2 : i < halfM n
        · rw [if_pos hi2]
          obtain ⟨j1, j2, j3⟩ := climbR_ok hlb (by omega) (halfM n) i _ (hp.take (path.length - 1))
          obtain ⟨K2, e2⟩ := Ev.get (ih (halfM n) (by omega) i (path.take (path.length - 1)) (by omega) (by omega) hi2 (hp.take _) (by rw [List.length_take]; omega))
          generalize climbR (leafB a b) (halfM n) i (path.take (path.length - 1)) = r at *
          obtain ⟨K3, e3⟩ := Ev.get (impl_Digest_ev (lastL r.1) (by have := (lastL_ways j1).2; omega))
          have hd := digM_size (lastL r.1)
          refine ⟨K1 + K2 + K3 + 2, fun k hk => ?_⟩
          obtain ⟨k, rfl⟩ : ∃ m, k = m + 2 := ⟨k - 2, by omega⟩
          show impl_climb.f (k + 2) a b _ _ path = _
          simp only [impl_climb.f]
          rw [if_neg (by omega), ew, if_neg (by omega), e1 _ (by omega), Option.bind_some, if_neg (by omega)]
          simp only [impl_climb.j0]
          rw [if_pos (by omega), if_pos (by omega), Int.toNat_natCast, e2 _ (by omega), Option.bind_some]
          by_cases hrt : r.2 = true
          · have hl0 := j3 hrt
            have ew2 : wrap64 ((r.1.length : Int) - 1) = ((r.1.length - 1 : Nat) : Int) := by rw [w64 (by omega) (by omega)]; omega
            rw [if_pos hrt, if_pos hrt, ew2, if_pos (by omega), if_pos (by omega), rdL2_last r.1 hl0, e3 _ (by omega), Option.bind_some, if_neg (by simp; omega), if_pos (by omega), hr, impl_nodeBytes_eq _ _ (by omega) (by omega), Option.bind_some, if_pos (by omega)]
          · rw [if_neg hrt, if_neg hrt]
        · rw [if_neg hi2]
          obtain ⟨j1, j2, j3⟩ := climbR_ok hlb (by omega) (n - halfM n) (i - halfM n) _ (hp.take (path.length - 1))
          obtain ⟨K2, e2⟩ := Ev.get (ih (n - halfM n) (by omega) (i - halfM n) (path.take (path.length - 1)) (by omega) (by omega) (by omega) (hp.take _) (by rw [List.length_take]; omega))
          generalize climbR (leafB a b) (n - halfM n) (i - halfM n) (path.take (path.length - 1)) = r at *
          obtain ⟨K3, e3⟩ := Ev.get (impl_Digest_ev (lastL r.1) (by have := (lastL_ways j1).2; omega))
          have hd := digM_size (lastL r.1)
          have ei : wrap64 ((i : Int) - (halfM n : Int)) = ((i - halfM n : Nat) : Int) := by rw [w64 (by omega) (by omega)]; omega
          have en : wrap64 ((n : Int) - (halfM n : Int)) = ((n - halfM n : Nat) : Int) := by rw [w64 (by omega) (by omega)]; omega
          refine ⟨K1 + K2 + K3 + 2, fun k hk => ?_⟩
          obtain ⟨k, rfl⟩ : ∃ m, k = m + 2 := ⟨k - 2, by omega⟩
          show impl_climb.f (k + 2) a b _ _ path = _
          simp only [impl_climb.f]
          rw [if_neg (by omega), ew, if_neg (by omega), e1 _ (by omega), Option.bind_some, if_pos (by omega), ei, en]
          simp only [impl_climb.j0]
          rw [if_pos (by omega), if_pos (by omega), Int.toNat_natCast, e2 _ (by omega), Option.bind_some]
          by_cases hrt : r.2 = true
          · have hl0 := j3 hrt
            have ew2 : wrap64 ((r.1.length : Int) - 1) = ((r.1.length - 1 : Nat) : Int) := by rw [w64 (by omega) (by omega)]; omega
            rw [if_pos hrt, if_pos hrt, ew2, if_pos (by omega), if_pos (by omega), rdL2_last r.1 hl0, e3 _ (by omega), Option.bind_some, if_pos (by simp; omega), if_pos (by omega), hr, impl_nodeBytes_eq _ _ (by omega) (by omega), Option.bind_some, if_pos (by omega)]
          · rw [if_neg hrt, if_neg hrt]
    · obtain rfl : n = 1 := by omega
      rw [dif_neg h]
      obtain ⟨K1, e1⟩ := Ev.get (impl_leafBytes_ev a b (by omega) (by omega))
      refine ⟨K1 + 1, fun k hk => ?_⟩
      obtain ⟨k, rfl⟩ : ∃ m, k = m + 1 := ⟨k - 1, by omega⟩
      show impl_climb.f (k + 1) a b _ _ path = _
      simp only [impl_climb.f]
      rw [if_pos (by omega), e1 _ (by omega), Option.bind_some]
      congr 2
      cases hq : path.length with
      | zero => rfl
      | succ m => simp; omega
theorem impl_wayTo_ev (a b : ByteArray) (ha : a.size ≤ 10000000) (hb : b.size ≤ 10000000) (n i : Nat) (path : List ByteArray) (h1 : 1 ≤ n) (hn : n ≤ 1000) (hi : i < n) (hp : FewS path) (hpl : path.length ≤ 1000000000) :
    Ev (fun k => impl_wayTo.f k a b (i : Int) (n : Int) path) (wayR (leafB a b) n i path) := by
  have hlb := leafB_by a b
  have hll := leafB_len a b
  obtain ⟨j1, j2, j3⟩ := climbR_ok hlb (by omega) n i path hp
  obtain ⟨K1, e1⟩ := Ev.get (impl_climb_ev a b ha hb n i path h1 hn hi hp hpl)
  unfold wayR
  generalize climbR (leafB a b) n i path = r at *
  obtain ⟨K2, e2⟩ := Ev.get (impl_Digest_ev (lastL r.1) (by have := (lastL_ways j1).2; omega))
  have hd := digM_size (lastL r.1)
  obtain ⟨K3, e3⟩ := Ev.get (impl_rootBytes_ev (n : Int) (digM (lastL r.1)) (by omega))
  refine ⟨K1 + K2 + K3, fun k hk => ?_⟩
  show impl_wayTo.f k a b _ _ path = _
  unfold impl_wayTo.f
  rw [e1 _ (by omega), Option.bind_some]
  by_cases hrt : r.2 = true
  · have hl0 := j3 hrt
    have ew2 : wrap64 ((r.1.length : Int) - 1) = ((r.1.length - 1 : Nat) : Int) := by rw [w64 (by omega) (by omega)]; omega
    rw [if_pos hrt, if_pos hrt, ew2, if_pos (by omega), if_pos (by omega), rdL2_last r.1 hl0, e2 _ (by omega), Option.bind_some, e3 _ (by omega), Option.bind_some, if_pos (by omega)]
  · rw [if_neg hrt, if_neg hrt]
theorem wayR_ok {leaf : List Int} (hb : By leaf) (hl : leaf.length ≤ 100000000) (n i : Nat) (path : List ByteArray) (hp : FewS path) :
    Ways (wayR leaf n i path).1 ∧ (wayR leaf n i path).1.length ≤ n + 2 ∧ ((wayR leaf n i path).2 = true → 0 < (wayR leaf n i path).1.length) := by
  obtain ⟨j1, j2, j3⟩ := climbR_ok hb hl n i path hp
  unfold wayR
  generalize climbR leaf n i path = r at *
  have hd := digM_size (lastL r.1)
  have ht := topB_len n (digM (lastL r.1))
  by_cases hrt : r.2 = true
  · rw [if_pos hrt]
    exact ⟨j1.snoc (topB_by _ _) (by omega), by simp; omega, fun _ => by simp⟩
  · rw [if_neg hrt]
    exact ⟨fun _ hx => absurd hx (List.not_mem_nil), by simp, fun e => by simp at e⟩
theorem inRange_eqP (a b c : Int) : impl_inRange.f a b c = some (decide (b ≤ a ∧ a ≤ c)) := by
  unfold impl_inRange.f
  by_cases h : a ≥ b
  · rw [if_pos h]
    congr 1
    by_cases h2 : a ≤ c <;> simp [h2, show b ≤ a from h]
  · rw [if_neg h]
    congr 1
    simp [show ¬ b ≤ a by omega]
theorem isPlace_eq (i n : Int) (hn : -9223372036854775808 ≤ n ∧ n ≤ 9223372036854775807) : impl_isPlace.f i n = some (decide ((1 ≤ n ∧ n ≤ 60) ∧ 0 ≤ i ∧ i < n)) := by
  unfold impl_isPlace.f
  rw [inRange_eqP, Option.bind_some]
  by_cases h : 1 ≤ n ∧ n ≤ 60
  · rw [if_pos (by simpa using h), inRange_eqP, w64 (by omega) (by omega), Option.bind_some]
    congr 1
    by_cases h2 : 0 ≤ i ∧ i < n
    · simp [h, h2]; omega
    · have : ¬ (0 ≤ i ∧ i ≤ n - 1) := by omega
      simp [h, h2, this]
  · rw [if_neg (by simpa using h)]
    simp [h]
theorem impl_CheckPath_ev (a b : ByteArray) (ha : a.size ≤ 10000000) (hb : b.size ≤ 10000000) (i n : Int) (hn : -9223372036854775808 ≤ n ∧ n ≤ 9223372036854775807) (path : List ByteArray) (hp : FewS path) (hpl : path.length ≤ 1000000000) (root : ByteArray) :
    Ev (fun k => impl_CheckPath.f k a b i n path root) (checkM (leafB a b) i n path root) := by
  have hlb := leafB_by a b
  have hll := leafB_len a b
  unfold checkM
  by_cases h : (1 ≤ n ∧ n ≤ 60) ∧ 0 ≤ i ∧ i < n
  · obtain ⟨m, rfl⟩ : ∃ m : Nat, n = (m : Int) := ⟨n.toNat, by omega⟩
    obtain ⟨j, rfl⟩ : ∃ j : Nat, i = (j : Int) := ⟨i.toNat, by omega⟩
    rw [if_pos h, Int.toNat_natCast, Int.toNat_natCast]
    obtain ⟨j1, j2, j3⟩ := wayR_ok hlb (by omega) m j path hp
    obtain ⟨K1, e1⟩ := Ev.get (impl_wayTo_ev a b ha hb m j path (by omega) (by omega) (by omega) hp hpl)
    generalize wayR (leafB a b) m j path = r at *
    obtain ⟨K2, e2⟩ := Ev.get (impl_Digest_ev (lastL r.1) (by have := (lastL_ways j1).2; omega))
    refine ⟨K1 + K2, fun k hk => ?_⟩
    show impl_CheckPath.f k a b _ _ path root = _
    unfold impl_CheckPath.f
    rw [isPlace_eq _ _ hn, Option.bind_some, if_pos (by simpa using h), e1 _ (by omega), Option.bind_some]
    by_cases hrt : r.2 = true
    · have hl0 := j3 hrt
      have ew2 : wrap64 ((r.1.length : Int) - 1) = ((r.1.length - 1 : Nat) : Int) := by rw [w64 (by omega) (by omega)]; omega
      rw [if_pos hrt, if_pos hrt, ew2, if_pos (by omega), if_pos (by omega), rdL2_last r.1 hl0, e2 _ (by omega), Option.bind_some]
    · rw [if_neg hrt, if_neg hrt]
  · rw [if_neg h]
    refine ⟨0, fun k hk => ?_⟩
    show impl_CheckPath.f k a b _ _ path root = _
    unfold impl_CheckPath.f
    rw [isPlace_eq _ _ hn, Option.bind_some, if_neg (by simpa using h)]
/-- What the reference hands back of the ways. -/
def strR (r : List (List Int) × Bool) : List ByteArray × Bool := (r.1.map strOfNums, r.2)
theorem spec_l4Hashed_ev (leaf : List Int) (hlb : By leaf) (hll : leaf.length ≤ 100000000) : ∀ (n i : Nat) (path : List ByteArray), 1 ≤ n → n ≤ 1000 → i < n → FewS path → path.length ≤ 1000000000 →
    Ev (fun k => spec_l4Hashed.f k leaf (i : Int) (n : Int) path) (strR (climbR leaf n i path)) := by
  intro n
  induction n using Nat.strongRecOn with
  | _ n ih =>
    intro i path h1 hn hi hp hpl
    rw [climbR]
    by_cases h : 2 ≤ n
    · have hh := halfM_lt h
      rw [dif_pos h]
      by_cases h0 : path.length = 0
      · rw [if_pos h0]
        refine Ev.up (Ev.now _) (fun k _ => ?_)
        simp only [spec_l4Hashed.f]
        rw [if_neg (by omega), if_pos (by omega)]
        rfl
      · rw [if_neg h0]
        have hs := lastS_few hp
        have ew : wrap64 ((path.length : Int) - 1) = ((path.length - 1 : Nat) : Int) := by rw [w64 (by omega) (by omega)]; omega
        have hr := rd_last' path (by omega) (by omega)
        obtain ⟨K1, e1⟩ := Ev.get (spec_l4Half_ev n (by omega) (by omega))
        by_cases hi2 : i < halfM n
        · rw [if_pos hi2]
          obtain ⟨j1, j2, j3⟩ := climbR_ok hlb hll (halfM n) i _ (hp.take (path.length - 1))
          obtain ⟨K2, e2⟩ := Ev.get (ih (halfM n) (by omega) i (path.take (path.length - 1)) (by omega) (by omega) hi2 (hp.take _) (by rw [List.length_take]; omega))
          generalize climbR leaf (halfM n) i (path.take (path.length - 1)) = r at *
          obtain ⟨lb, ll⟩ := lastL_ways j1
          obtain ⟨K3, e3⟩ := Ev.get (spec_Digest_ev (lastL r.1) lb (by omega))
          have hd := digM_size (lastL r.1)
          refine ⟨K1 + K2 + K3 + 2, fun k hk => ?_⟩
          obtain ⟨k, rfl⟩ : ∃ m, k = m + 2 := ⟨k - 2, by omega⟩
          show spec_l4Hashed.f (k + 2) leaf _ _ path = _
          simp only [spec_l4Hashed.f]
          rw [if_neg (by omega), if_neg (by omega), ew, if_pos (by omega), if_pos (by omega), e1 _ (by omega), Option.bind_some, if_neg (by omega), hr]
          simp only [spec_l4Hashed.j0]
          rw [ew, if_pos (by omega), if_pos (by omega), Int.toNat_natCast, e2 _ (by omega), Option.bind_some]
          unfold strR
          simp only
          by_cases hrt : r.2 = true
          · have hl0 := j3 hrt
            have hml : (r.1.map strOfNums).length = r.1.length := List.length_map _
            have ew2 : wrap64 (((r.1.map strOfNums).length : Int) - 1) = (((r.1.map strOfNums).length - 1 : Nat) : Int) := by rw [w64 (by omega) (by omega)]; omega
            rw [if_pos hrt, if_pos hrt, ew2, if_pos (by omega), if_pos (by omega), rd_last' _ (by omega) (by omega), lastS_map hl0, if_pos (by rw [strOfNums_size]; omega), bytesOf_strOfNums lb, e3 _ (by omega), Option.bind_some, if_pos (by omega), spec_l4Node_eq _ _ (by omega) (by omega), Option.bind_some, if_pos (by omega)]
            simp
          · rw [if_neg hrt, if_neg hrt]
            rfl
        · rw [if_neg hi2]
          obtain ⟨j1, j2, j3⟩ := climbR_ok hlb hll (n - halfM n) (i - halfM n) _ (hp.take (path.length - 1))
          obtain ⟨K2, e2⟩ := Ev.get (ih (n - halfM n) (by omega) (i - halfM n) (path.take (path.length - 1)) (by omega) (by omega) (by omega) (hp.take _) (by rw [List.length_take]; omega))
          generalize climbR leaf (n - halfM n) (i - halfM n) (path.take (path.length - 1)) = r at *
          obtain ⟨lb, ll⟩ := lastL_ways j1
          obtain ⟨K3, e3⟩ := Ev.get (spec_Digest_ev (lastL r.1) lb (by omega))
          have hd := digM_size (lastL r.1)
          have ei : wrap64 ((i : Int) - (halfM n : Int)) = ((i - halfM n : Nat) : Int) := by rw [w64 (by omega) (by omega)]; omega
          have en : wrap64 ((n : Int) - (halfM n : Int)) = ((n - halfM n : Nat) : Int) := by rw [w64 (by omega) (by omega)]; omega
          refine ⟨K1 + K2 + K3 + 2, fun k hk => ?_⟩
          obtain ⟨k, rfl⟩ : ∃ m, k = m + 2 := ⟨k - 2, by omega⟩
          show spec_l4Hashed.f (k + 2) leaf _ _ path = _
          simp only [spec_l4Hashed.f]
          rw [if_neg (by omega), if_neg (by omega), ew, if_pos (by omega), if_pos (by omega), e1 _ (by omega), Option.bind_some, if_pos (by omega), hr, ei, en]
          simp only [spec_l4Hashed.j0]
          rw [ew, if_pos (by omega), if_pos (by omega), Int.toNat_natCast, e2 _ (by omega), Option.bind_some]
          unfold strR
          simp only
          by_cases hrt : r.2 = true
          · have hl0 := j3 hrt
            have hml : (r.1.map strOfNums).length = r.1.length := List.length_map _
            have ew2 : wrap64 (((r.1.map strOfNums).length : Int) - 1) = (((r.1.map strOfNums).length - 1 : Nat) : Int) := by rw [w64 (by omega) (by omega)]; omega
            rw [if_pos hrt, if_pos hrt, ew2, if_pos (by omega), if_pos (by omega), rd_last' _ (by omega) (by omega), lastS_map hl0, if_pos (by rw [strOfNums_size]; omega), bytesOf_strOfNums lb, e3 _ (by omega), Option.bind_some, if_neg (by omega), spec_l4Node_eq _ _ (by omega) (by omega), Option.bind_some, if_pos (by omega)]
            simp
          · rw [if_neg hrt, if_neg hrt]
            rfl
    · obtain rfl : n = 1 := by omega
      rw [dif_neg h]
      refine Ev.up (Ev.now _) (fun k _ => ?_)
      simp only [spec_l4Hashed.f]
      rw [if_pos (by omega)]
      unfold strR
      congr 2
      cases hq : path.length with
      | zero => rfl
      | succ m => simp; omega
theorem spec_l4All_ev (leaf : List Int) (hlb : By leaf) (hll : leaf.length ≤ 100000000) (n i : Nat) (path : List ByteArray) (h1 : 1 ≤ n) (hn : n ≤ 1000) (hi : i < n) (hp : FewS path) (hpl : path.length ≤ 1000000000) :
    Ev (fun k => spec_l4All.f k leaf (i : Int) (n : Int) path) (strR (wayR leaf n i path)) := by
  obtain ⟨j1, j2, j3⟩ := climbR_ok hlb hll n i path hp
  obtain ⟨K1, e1⟩ := Ev.get (spec_l4Hashed_ev leaf hlb hll n i path h1 hn hi hp hpl)
  unfold wayR
  generalize climbR leaf n i path = r at *
  obtain ⟨lb, ll⟩ := lastL_ways j1
  obtain ⟨K2, e2⟩ := Ev.get (spec_Digest_ev (lastL r.1) lb (by omega))
  have hd := digM_size (lastL r.1)
  obtain ⟨K3, e3⟩ := Ev.get (spec_l4Top_ev (n : Int) (digM (lastL r.1)) (by omega))
  refine ⟨K1 + K2 + K3, fun k hk => ?_⟩
  show spec_l4All.f k leaf _ _ path = _
  unfold spec_l4All.f
  rw [e1 _ (by omega), Option.bind_some]
  unfold strR
  simp only
  by_cases hrt : r.2 = true
  · have hl0 := j3 hrt
    have hml : (r.1.map strOfNums).length = r.1.length := List.length_map _
    have ew2 : wrap64 (((r.1.map strOfNums).length : Int) - 1) = (((r.1.map strOfNums).length - 1 : Nat) : Int) := by rw [w64 (by omega) (by omega)]; omega
    rw [if_pos hrt, if_pos hrt, ew2, if_pos (by omega), if_pos (by omega), rd_last' _ (by omega) (by omega), lastS_map hl0, if_pos (by rw [strOfNums_size]; omega), bytesOf_strOfNums lb, e2 _ (by omega), Option.bind_some, e3 _ (by omega), Option.bind_some, if_pos (by omega)]
    simp
  · rw [if_neg hrt, if_neg hrt]
    rfl
theorem l1In_eqP (a b c : Int) : spec_l1In.f a b c = some (decide (b ≤ a ∧ a ≤ c)) := by
  unfold spec_l1In.f
  by_cases h : a ≥ b
  · rw [if_pos h]
    congr 1
    by_cases h2 : a ≤ c <;> simp [h2, show b ≤ a from h]
  · rw [if_neg h]
    congr 1
    simp [show ¬ b ≤ a by omega]
end Go.Proofs.Ythkaifddpjjmaaa.P
