-- Written by wip/xp/xp.py over the kit's print; Lean checks it.
import Derived.Test.YthkaifddpjjmaaaStr
import Derived.Test.YthkaifddpjjmaaaPx0
import Derived.Test.YthkaifddpjjmaaaPx7
namespace Go.Proofs.Ythkaifddpjjmaaa.P
open Go.RowKit Go.Proofs.YthkaifddpjjmaaaW.PrintWords Go.Proofs.YthkaifddpjjmaaaW.PrintLast Go.Proofs.YthkaifddpjjmaaaW.PrintMore
attribute [local go_sem] max2_int min2_int max_two min_two max_three min_three max_four min_four   -- for this text's walks alone
set_option linter.unusedVariables false
set_option linter.unusedSimpArgs false

/-! ###  impl_KeyOk: function 106 -/
def impl_KeyOk.f (k : Nat) (a0 : ByteArray) : Option (Bool) := (impl_inRange.f (a0.size : Int) 1 12).bind fun t492 => (if t492 = true then ((impl_isWord.f k a0).bind fun t493 => (some t493)) else (some false))
set_option maxHeartbeats 8000000 in
set_option maxRecDepth 100000 in
theorem impl_KeyOk.calls (k : Nat) (a0 : ByteArray) (r : Bool) (w : World) (h : impl_KeyOk.f k a0 = some r) :
  Calls Try.prog 106 #[.string a0] w fun e w' => e = .returned (.bool r) ∧ Drawn0 w w' := by
  have H := h
  clear h
  unfold impl_KeyOk.f at H
  obtain ⟨t492, A2, H⟩ := bo_ H
  by_cases c3 : t492 = true
  · subst c3
    rw [if_pos rfl] at H
    obtain ⟨t493, A4, H⟩ := bo_ H
    obtain rfl := Option.some.inj H
    go_enter Try.func106, Try.ntmps106
    go_wp2_with (first | ((with_reducible refine gate_callee (f := 52) rfl ?_); refine gl_ (some 5) Try.func52 #[.int .i64 (a0.size : Int), .int .i64 1, .int .i64 12] rfl al_ ?_; (with_reducible refine (impl_inRange.calls (a0.size : Int) 1 12 true _ A2.out).mono ?_); rintro e w' ⟨rfl, ⟨nd, rfl⟩⟩; refine ⟨_, rfl, ?_⟩) | (go_at_call 114; (with_reducible refine (impl_isWord.calls k a0 t493 _ A4.out).mono ?_); rintro e w' ⟨rfl, ⟨nd, rfl⟩⟩))
    go_ret
    exact ⟨rs_, by repeat (first | exact Drawn0.refl _ | apply Drawn0.step)⟩
  · replace c3 := Bool.eq_false_iff.mpr c3
    subst c3
    rw [if_neg (show ¬ (false = true) by decide)] at H
    obtain rfl := Option.some.inj H
    go_enter Try.func106, Try.ntmps106
    go_wp2_with (first | ((with_reducible refine gate_callee (f := 52) rfl ?_); refine gl_ (some 5) Try.func52 #[.int .i64 (a0.size : Int), .int .i64 1, .int .i64 12] rfl al_ ?_; (with_reducible refine (impl_inRange.calls (a0.size : Int) 1 12 false _ A2.out).mono ?_); rintro e w' ⟨rfl, ⟨nd, rfl⟩⟩; refine ⟨_, rfl, ?_⟩))
    go_ret
    exact ⟨rs_, by repeat (first | exact Drawn0.refl _ | apply Drawn0.step)⟩

/-! ###  impl_PairOk: function 84 -/
def impl_PairOk.f (k : Nat) (a0_0 : ByteArray) (a0_1 : ByteArray) : Option (Bool) := (impl_KeyOk.f k a0_0).bind fun t495 => (if t495 = true then (some (decide ((a0_1.size : Int) ≤ 20))) else (some false))
set_option maxHeartbeats 8000000 in
set_option maxRecDepth 100000 in
theorem impl_PairOk.calls (k : Nat) (a0_0 : ByteArray) (a0_1 : ByteArray) (r : Bool) (w : World) (h : impl_PairOk.f k a0_0 a0_1 = some r) :
  Calls Try.prog 84 #[.agg #[.string a0_0, .string a0_1]] w fun e w' => e = .returned (.bool r) ∧ Below w.heap.size w w' := by
  have hu26 := Try.underlying26
  have HB := q_ (Below.refl w.heap.size w)
  have H := h
  clear h
  unfold impl_PairOk.f at H
  obtain ⟨t495, A2, H⟩ := bo_ H
  by_cases c3 : t495 = true
  · subst c3
    rw [if_pos rfl] at H
    obtain rfl := Option.some.inj H
    go_enter Try.func84, Try.ntmps84
    go_wp2_with (first | ((with_reducible refine gate_dst (N := 1) rfl ?_); (try (refine gate_guard (by rfl) ?_; dsimp only)); refine box_event rfl (N := 1) rfl (cs := #[.string a0_0, .string a0_1]) (t := 26) hr_ ?_; intro gb494 hg w4 hbox hb; have BK494 := q_ (hbox); have GW494 := q_ ((by rw [hg]; exact (below_size (be_ HB.out)) : w.heap.size ≤ gb494)); have GE494 := q_ ((by rw [hg]; exact (below_size (be_ HB.out)) : w.heap.size ≤ gb494)); replace HB := q_ (below_step (be_ HB.out) hb); clear hb hbox hg; obtain ⟨hcz5_0, hcz5_1, hfz5_0, hfz5_1⟩ := bx2_ BK494.out) | ((with_reducible refine gate_callee (f := 106) rfl ?_); refine gl_ (some 5) Try.func106 #[.string a0_0] rfl al_ ?_; (with_reducible refine (impl_KeyOk.calls k a0_0 true _ A2.out).mono ?_); rintro e w' ⟨rfl, ⟨nd, rfl⟩⟩; refine ⟨_, rfl, ?_⟩))
    go_ret
    exact ⟨rf_, bs_ HB.out GE494.out⟩
  · replace c3 := Bool.eq_false_iff.mpr c3
    subst c3
    rw [if_neg (show ¬ (false = true) by decide)] at H
    obtain rfl := Option.some.inj H
    go_enter Try.func84, Try.ntmps84
    go_wp2_with (first | ((with_reducible refine gate_dst (N := 1) rfl ?_); (try (refine gate_guard (by rfl) ?_; dsimp only)); refine box_event rfl (N := 1) rfl (cs := #[.string a0_0, .string a0_1]) (t := 26) hr_ ?_; intro gb494 hg w6 hbox hb; have BK494 := q_ (hbox); have GW494 := q_ ((by rw [hg]; exact (below_size (be_ HB.out)) : w.heap.size ≤ gb494)); have GE494 := q_ ((by rw [hg]; exact (below_size (be_ HB.out)) : w.heap.size ≤ gb494)); replace HB := q_ (below_step (be_ HB.out) hb); clear hb hbox hg; obtain ⟨hcz7_0, hcz7_1, hfz7_0, hfz7_1⟩ := bx2_ BK494.out) | ((with_reducible refine gate_callee (f := 106) rfl ?_); refine gl_ (some 5) Try.func106 #[.string a0_0] rfl al_ ?_; (with_reducible refine (impl_KeyOk.calls k a0_0 false _ A2.out).mono ?_); rintro e w' ⟨rfl, ⟨nd, rfl⟩⟩; refine ⟨_, rfl, ?_⟩))
    go_ret
    exact ⟨rf_, bs_ HB.out GE494.out⟩

/-! ###  impl_PairsOk: function 41 -/
def impl_PairsOk.l0 : Nat → List (S26) → List (S26) → Int → Int → Option (Bool)
  | 0, _, _, _, _ => none
  | k + 1, x0, x5, x6, x7 => if x7 < x6 then (if 0 ≤ x7 then (if x7 < (x5.length : Int) then ((impl_PairOk.f k ((rd_T26 x5 x7).f0) ((rd_T26 x5 x7).f1)).bind fun t498 => (if t498 = true then (if x7 > 0 then (if 0 ≤ (wrap64 (x7 - 1)) then (if (wrap64 (x7 - 1)) < (x0.length : Int) then (if ((Op.bytesLess (((rd_T26 x0 (wrap64 (x7 - 1))).f0).toList) (((rd_T26 x5 x7).f0).toList)) = true) then (impl_PairsOk.l0 k x0 x5 x6 (wrap64 (x7 + 1))) else (some false)) else (none)) else (none)) else (impl_PairsOk.l0 k x0 x5 x6 (wrap64 (x7 + 1)))) else (some false))) else (none)) else (none)) else (some (decide ((x0.length : Int) ≤ 60)))
def impl_PairsOk.f (k : Nat) (l0 : List (S26)) : Option (Bool) := impl_PairsOk.l0 k l0 l0 (l0.length : Int) 0
def impl_PairsOk.T4 : Bool × List (List Nat × List Nat) := (true, [([], []), ([0], [0]), ([1], [1]), ([2, 1], [2]), ([3], [3]), ([4, 3], [3, 4]), ([5, 3, 3], [3, 5]), ([6], [6]), ([7, 6], [6, 7]), ([6], [6]), ([6], [6]), ([10, 6], [6, 10]), ([9, 11, 6], [6, 9, 11]), ([12, 6], [6, 12]), ([13, 6], [6, 13]), ([8, 14, 6], [6, 8, 14]), ([6, 15, 3], [3, 6, 15]), ([3, 16], [3, 16])])
def impl_PairsOk.B4 : List Nat := [0, 1, 3, 7, 15, 31, 63, 127, 255, 127, 127, 1151, 3711, 7807, 15999, 32767, 65535, 131071]
theorem impl_PairsOk.tab4 : rtab .any (opsOf Try.f41 4) = impl_PairsOk.T4 := by kernel_rfl
theorem impl_PairsOk.bits4 : waitsOk impl_PairsOk.T4.2 impl_PairsOk.B4 = true := by kernel_rfl
set_option maxHeartbeats 8000000 in
set_option maxRecDepth 100000 in
theorem impl_PairsOk.calls (k : Nat) (A0 : Option Addr) (c0 : Nat) (l0 : List (S26)) (r : Bool) (w : World) (hr0 : Kd.C k26 w A0 l0.length l0) (hc0 : l0.length ≤ c0) (h : impl_PairsOk.f k l0 = some r) :
  Calls Try.prog 41 #[.slice A0 l0.length c0] w fun e w' => e = .returned (.bool r) ∧ Below w.heap.size w w' := by
  have hu26 := Try.underlying26
  have HR0 := Aside0.mk hr0
  have HC0 := Aside0.mk hc0
  clear hr0 hc0
  have HB := q_ (Below.refl w.heap.size w)
  have H := h
  clear h
  unfold impl_PairsOk.f at H
  have H' := Aside0.mk H
  clear H
  go_enter Try.func41, Try.ntmps41
  go_wp2
  go_loopg [7] k (fun kq v7 w' => ∃ (x7_1 : Int), v7 = .int .i64 x7_1 ∧ Aside0 (impl_PairsOk.l0 kq l0 l0 (l0.length : Int) x7_1 = some r) ∧ Aside0 (kq ≤ k) ∧ Aside0 (Below w.heap.size w w'))
  case atStart => exact ⟨(0), rs_, H', ⟨Nat.le_refl _⟩, ⟨be_ HB.out⟩⟩
  case round =>
   clear H'
   obtain ⟨x7_1, rfl, HA, HK1, HB⟩ := hrel
   cases gk with
   | zero => exact absurd HA.out (by simp [impl_PairsOk.l0])
   | succ k1 =>
    have H := HA.out
    clear HA
    simp only [impl_PairsOk.l0] at H
    by_cases c2 : x7_1 < (l0.length : Int)
    · rw [if_pos c2] at H
      have c2b0 := decide_eq_true c2
      clear c2
      obtain ⟨c3, H⟩ := ip_ H
      have c3b0 : decide (0 ≤ x7_1) = true := decide_eq_true c3
      clear c3
      obtain ⟨c4, H⟩ := ip_ H
      have c4b0 : decide (x7_1 < (l0.length : Int)) = true := decide_eq_true c4
      clear c4
      obtain ⟨t498, A5, H⟩ := bo_ H
      by_cases c6 : t498 = true
      rotate_left
      · replace c6 := Bool.eq_false_iff.mpr c6
        subst c6
        rw [if_neg (show ¬ (false = true) by decide)] at H
        obtain rfl := Option.some.inj H
        have p496 : 0 ≤ (x7_1 : Int) := od_
        have q496 : x7_1 < (l0.length : Int) := od_
        obtain ⟨ad496, e496, hx496_0, hx496_1⟩ := at_T26 HR0.out x7_1 p496 q496
        cases e496
        replace hx496_0 := hc_ HB.out hx496_0
        replace hx496_1 := hc_ HB.out hx496_1
        replace p496 := eq_true p496
        replace q496 := eq_true q496
        try go_wp2_with (first | ((with_reducible refine gate_dst (N := 4) rfl ?_); refine box_event rfl (N := 4) rfl (cs := #[.string (⟨#[]⟩ : ByteArray), .string (⟨#[]⟩ : ByteArray)]) (t := 26) hr_ ?_; intro gb497 hg w27 hbox hb; have BK497 := q_ (hbox); have GW497 := q_ ((by rw [hg]; exact (below_size (be_ HB.out)) : w.heap.size ≤ gb497)); have GE497 := q_ ((by rw [hg]; exact (below_size (be_ HB.out)) : w.heap.size ≤ gb497)); replace HB := q_ (below_step (be_ HB.out) hb); clear hb hbox hg; obtain ⟨hcz28_0, hcz28_1, hfz28_0, hfz28_1⟩ := bx2_ BK497.out))
        have n0_ : Aside0 (((w27.setCell ⟨gb497, 0, none⟩ (.string ((rd_T26 l0 x7_1).f0))).setCell ⟨gb497, 1, none⟩ (.string ((rd_T26 l0 x7_1).f1))).heap[gb497]? = some (.cells #[.string ((rd_T26 l0 x7_1).f0), .string ((rd_T26 l0 x7_1).f1)] 26 (0, 0))) := ⟨by (with_reducible repeat (first | refine blk_drewN ?_ _ | refine blk_drew ?_ | refine blk_alloc ?_ _)); refine blk_put (cs := #[.string ((rd_T26 l0 x7_1).f0), .string (⟨#[]⟩ : ByteArray)]) ?_ 1 _ rfl; (with_reducible repeat (first | refine blk_drewN ?_ _ | refine blk_drew ?_ | refine blk_alloc ?_ _)); refine blk_put (cs := #[.string (⟨#[]⟩ : ByteArray), .string (⟨#[]⟩ : ByteArray)]) ?_ 0 _ rfl; (with_reducible repeat (first | refine blk_drewN ?_ _ | refine blk_drew ?_ | refine blk_alloc ?_ _)); exact BK497.out⟩
        have n1_ : Aside0 (Below w.heap.size w ((w27.setCell ⟨gb497, 0, none⟩ (.string ((rd_T26 l0 x7_1).f0))).setCell ⟨gb497, 1, none⟩ (.string ((rd_T26 l0 x7_1).f1)))) := ⟨bs_ HB.out GE497.out⟩
        (try clear BK497)
        (try clear HB)
        generalize ((w27.setCell ⟨gb497, 0, none⟩ (.string ((rd_T26 l0 x7_1).f0))).setCell ⟨gb497, 1, none⟩ (.string ((rd_T26 l0 x7_1).f1))) = w29 at n0_ n1_ ⊢
        have BK497 := n0_
        have HB := n1_
        clear n0_ n1_
        replace BK497 := q_ (blk_drew BK497.out)
        replace HB := q_ (below_drew1 HB.out)
        refine start_ (n := 18) (S := fun w' => w'.cell? ⟨gb497, 0, none⟩ = some (.string ((rd_T26 l0 x7_1).f0)) ∧ w'.cell? ⟨gb497, 1, none⟩ = some (.string ((rd_T26 l0 x7_1).f1))) (ds := []) (bq_ 0 18) (by kernel_rfl) rfl rfl ⟨(blk_cell BK497.out 0).trans rfl, (blk_cell BK497.out 1).trans rfl⟩ (fun hHeld => ?_); refine with_tabW impl_PairsOk.tab4 impl_PairsOk.bits4 (fun HT_ HW_ => ?_)
        generalize w29.drew = w30 at BK497 HB hHeld ⊢
        refine k_ 0 12 HT_ HW_ hHeld ?_
        refine oc_ 1 13 (bq_ 2 16) HT_ Try.func84 #[.agg #[.string ((rd_T26 l0 x7_1).f0), .string ((rd_T26 l0 x7_1).f1)]] ?_
        with_reducible refine (impl_PairOk.calls k1 ((rd_T26 l0 x7_1).f0) ((rd_T26 l0 x7_1).f1) false _ A5.out).mono ?_
        rintro e w31 ⟨rfl, hb⟩
        refine ⟨_, rfl, ?_⟩
        replace BK497 := q_ (bb_ BK497.out hb)
        replace HB := q_ (below_step (bs_ HB.out GE497.out) hb)
        (try clear hb)
        (try clear hb2)
        (try clear hk)
        (try clear hi)
        refine ⟨⟨(blk_cell BK497.out 0).trans rfl, (blk_cell BK497.out 1).trans rfl⟩, fun hHeld => nm_ ?_⟩
        refine p_ 2 14 HT_ ?_; refine p_ 3 15 HT_ ?_; refine u_ 4 16 HT_ ?_; refine u_ 5 17 HT_ ?_; refine u_ 6 18 HT_ ?_; refine u_ 7 19 HT_ ?_; refine u_ 8 20 HT_ ?_; refine u_ 9 21 HT_ ?_; refine u_ 10 22 HT_ ?_; refine u_ 11 23 HT_ ?_; refine u_ 12 24 HT_ ?_; refine u_ 13 25 HT_ ?_; refine u_ 14 26 HT_ ?_; refine u_ 15 27 HT_ ?_; refine u_ 16 28 HT_ ?_; refine p_ 17 29 HT_ ?_
        refine done_ (done_of HT_.out (by kernel_rfl)) ?_
        try go_wp2
        go_ret
        exact ⟨rf_, bs_ HB.out GE497.out⟩
      subst c6
      rw [if_pos rfl] at H
      by_cases c7 : x7_1 > 0
      rotate_left
      · rw [if_neg c7] at H
        have c7b0 : decide (0 < x7_1) = false := decide_eq_false c7
        clear c7
        have H' := Aside0.mk H
        clear H
        have p496 : 0 ≤ (x7_1 : Int) := od_
        have q496 : x7_1 < (l0.length : Int) := od_
        obtain ⟨ad496, e496, hx496_0, hx496_1⟩ := at_T26 HR0.out x7_1 p496 q496
        cases e496
        replace hx496_0 := hc_ HB.out hx496_0
        replace hx496_1 := hc_ HB.out hx496_1
        replace p496 := eq_true p496
        replace q496 := eq_true q496
        try go_wp2_with (first | ((with_reducible refine gate_dst (N := 4) rfl ?_); refine box_event rfl (N := 4) rfl (cs := #[.string (⟨#[]⟩ : ByteArray), .string (⟨#[]⟩ : ByteArray)]) (t := 26) hr_ ?_; intro gb497 hg w22 hbox hb; have BK497 := q_ (hbox); have GW497 := q_ ((by rw [hg]; exact (below_size (be_ HB.out)) : w.heap.size ≤ gb497)); have GE497 := q_ ((by rw [hg]; exact (below_size (be_ HB.out)) : w.heap.size ≤ gb497)); replace HB := q_ (below_step (be_ HB.out) hb); clear hb hbox hg; obtain ⟨hcz23_0, hcz23_1, hfz23_0, hfz23_1⟩ := bx2_ BK497.out))
        have n0_ : Aside0 (((w22.setCell ⟨gb497, 0, none⟩ (.string ((rd_T26 l0 x7_1).f0))).setCell ⟨gb497, 1, none⟩ (.string ((rd_T26 l0 x7_1).f1))).heap[gb497]? = some (.cells #[.string ((rd_T26 l0 x7_1).f0), .string ((rd_T26 l0 x7_1).f1)] 26 (0, 0))) := ⟨by (with_reducible repeat (first | refine blk_drewN ?_ _ | refine blk_drew ?_ | refine blk_alloc ?_ _)); refine blk_put (cs := #[.string ((rd_T26 l0 x7_1).f0), .string (⟨#[]⟩ : ByteArray)]) ?_ 1 _ rfl; (with_reducible repeat (first | refine blk_drewN ?_ _ | refine blk_drew ?_ | refine blk_alloc ?_ _)); refine blk_put (cs := #[.string (⟨#[]⟩ : ByteArray), .string (⟨#[]⟩ : ByteArray)]) ?_ 0 _ rfl; (with_reducible repeat (first | refine blk_drewN ?_ _ | refine blk_drew ?_ | refine blk_alloc ?_ _)); exact BK497.out⟩
        have n1_ : Aside0 (Below w.heap.size w ((w22.setCell ⟨gb497, 0, none⟩ (.string ((rd_T26 l0 x7_1).f0))).setCell ⟨gb497, 1, none⟩ (.string ((rd_T26 l0 x7_1).f1)))) := ⟨bs_ HB.out GE497.out⟩
        (try clear BK497)
        (try clear HB)
        generalize ((w22.setCell ⟨gb497, 0, none⟩ (.string ((rd_T26 l0 x7_1).f0))).setCell ⟨gb497, 1, none⟩ (.string ((rd_T26 l0 x7_1).f1))) = w24 at n0_ n1_ ⊢
        have BK497 := n0_
        have HB := n1_
        clear n0_ n1_
        replace BK497 := q_ (blk_drew BK497.out)
        replace HB := q_ (below_drew1 HB.out)
        refine start_ (n := 18) (S := fun w' => w'.cell? ⟨gb497, 0, none⟩ = some (.string ((rd_T26 l0 x7_1).f0)) ∧ w'.cell? ⟨gb497, 1, none⟩ = some (.string ((rd_T26 l0 x7_1).f1))) (ds := []) (bq_ 0 18) (by kernel_rfl) rfl rfl ⟨(blk_cell BK497.out 0).trans rfl, (blk_cell BK497.out 1).trans rfl⟩ (fun hHeld => ?_); refine with_tabW impl_PairsOk.tab4 impl_PairsOk.bits4 (fun HT_ HW_ => ?_)
        generalize w24.drew = w25 at BK497 HB hHeld ⊢
        refine k_ 0 12 HT_ HW_ hHeld ?_
        refine oc_ 1 13 (bq_ 2 16) HT_ Try.func84 #[.agg #[.string ((rd_T26 l0 x7_1).f0), .string ((rd_T26 l0 x7_1).f1)]] ?_
        with_reducible refine (impl_PairOk.calls k1 ((rd_T26 l0 x7_1).f0) ((rd_T26 l0 x7_1).f1) true _ A5.out).mono ?_
        rintro e w26 ⟨rfl, hb⟩
        refine ⟨_, rfl, ?_⟩
        replace BK497 := q_ (bb_ BK497.out hb)
        replace HB := q_ (below_step (bs_ HB.out GE497.out) hb)
        (try clear hb)
        (try clear hb2)
        (try clear hk)
        (try clear hi)
        refine ⟨⟨(blk_cell BK497.out 0).trans rfl, (blk_cell BK497.out 1).trans rfl⟩, fun hHeld => nm_ ?_⟩
        refine p_ 2 14 HT_ ?_; refine p_ 3 15 HT_ ?_; refine p_ 4 16 HT_ ?_; refine p_ 5 17 HT_ ?_; refine p_ 6 18 HT_ ?_; refine u_ 7 19 HT_ ?_; refine u_ 8 20 HT_ ?_; refine u_ 9 21 HT_ ?_; refine u_ 10 22 HT_ ?_; refine u_ 11 23 HT_ ?_; refine u_ 12 24 HT_ ?_; refine u_ 13 25 HT_ ?_; refine u_ 14 26 HT_ ?_; refine u_ 15 27 HT_ ?_; refine p_ 16 28 HT_ ?_; refine p_ 17 29 HT_ ?_
        refine done_ (done_of HT_.out (by kernel_rfl)) ?_
        try go_wp2
        go_roundg k1
        case measure => have := HK1.out; omega
        case rel => exact ⟨(wrap64 (x7_1 + 1)), rs_, H', ⟨by have := HK1.out; omega⟩, ⟨bs_ HB.out GE497.out⟩⟩
      rw [if_pos c7] at H
      have c7b0 : decide (0 < x7_1) = true := decide_eq_true c7
      clear c7
      obtain ⟨ji8, hji8⟩ : ∃ j_ : Int, (wrap64 (x7_1 - 1)) = j_ := ⟨_, rfl⟩
      replace H : (if 0 ≤ (ji8) then (if (ji8) < (l0.length : Int) then (if ((Op.bytesLess (((rd_T26 l0 (ji8)).f0).toList) (((rd_T26 l0 x7_1).f0).toList)) = true) then (impl_PairsOk.l0 k1 l0 l0 (l0.length : Int) (wrap64 (x7_1 + 1))) else (some false)) else (none)) else (none)) = some r := by first | (rw [hji8] at H; exact H) | (simp only [hji8] at H ⊢; exact H)
      (try rw [hji8] at A5)
      have hji8w : (IntKind.i64.wrap (x7_1 - 1)) = ji8 := (i64_w _).trans hji8
      obtain ⟨c9, H⟩ := ip_ H
      have c9b0 : decide (0 ≤ (ji8)) = true := decide_eq_true c9
      clear c9
      obtain ⟨c10, H⟩ := ip_ H
      have c10b0 : decide ((ji8) < (l0.length : Int)) = true := decide_eq_true c10
      clear c10
      by_cases c11 : ((Op.bytesLess (((rd_T26 l0 (ji8)).f0).toList) (((rd_T26 l0 x7_1).f0).toList)) = true)
      · rw [if_pos c11] at H
        have c11b0 : (Op.bytesLess (((rd_T26 l0 (ji8)).f0).toList) (((rd_T26 l0 x7_1).f0).toList)) = true := c11
        clear c11
        have H' := Aside0.mk H
        clear H
        have p496 : 0 ≤ (x7_1 : Int) := od_
        have q496 : x7_1 < (l0.length : Int) := od_
        obtain ⟨ad496, e496, hx496_0, hx496_1⟩ := at_T26 HR0.out x7_1 p496 q496
        cases e496
        replace hx496_0 := hc_ HB.out hx496_0
        replace hx496_1 := hc_ HB.out hx496_1
        replace p496 := eq_true p496
        replace q496 := eq_true q496
        try go_wp2_with (first | ((with_reducible refine gate_dst (N := 4) rfl ?_); refine box_event rfl (N := 4) rfl (cs := #[.string (⟨#[]⟩ : ByteArray), .string (⟨#[]⟩ : ByteArray)]) (t := 26) hr_ ?_; intro gb497 hg w12 hbox hb; have BK497 := q_ (hbox); have GW497 := q_ ((by rw [hg]; exact (below_size (be_ HB.out)) : w.heap.size ≤ gb497)); have GE497 := q_ ((by rw [hg]; exact (below_size (be_ HB.out)) : w.heap.size ≤ gb497)); replace HB := q_ (below_step (be_ HB.out) hb); clear hb hbox hg; obtain ⟨hcz13_0, hcz13_1, hfz13_0, hfz13_1⟩ := bx2_ BK497.out))
        have n0_ : Aside0 (((w12.setCell ⟨gb497, 0, none⟩ (.string ((rd_T26 l0 x7_1).f0))).setCell ⟨gb497, 1, none⟩ (.string ((rd_T26 l0 x7_1).f1))).heap[gb497]? = some (.cells #[.string ((rd_T26 l0 x7_1).f0), .string ((rd_T26 l0 x7_1).f1)] 26 (0, 0))) := ⟨by (with_reducible repeat (first | refine blk_drewN ?_ _ | refine blk_drew ?_ | refine blk_alloc ?_ _)); refine blk_put (cs := #[.string ((rd_T26 l0 x7_1).f0), .string (⟨#[]⟩ : ByteArray)]) ?_ 1 _ rfl; (with_reducible repeat (first | refine blk_drewN ?_ _ | refine blk_drew ?_ | refine blk_alloc ?_ _)); refine blk_put (cs := #[.string (⟨#[]⟩ : ByteArray), .string (⟨#[]⟩ : ByteArray)]) ?_ 0 _ rfl; (with_reducible repeat (first | refine blk_drewN ?_ _ | refine blk_drew ?_ | refine blk_alloc ?_ _)); exact BK497.out⟩
        have n1_ : Aside0 (Below w.heap.size w ((w12.setCell ⟨gb497, 0, none⟩ (.string ((rd_T26 l0 x7_1).f0))).setCell ⟨gb497, 1, none⟩ (.string ((rd_T26 l0 x7_1).f1)))) := ⟨bs_ HB.out GE497.out⟩
        (try clear BK497)
        (try clear HB)
        generalize ((w12.setCell ⟨gb497, 0, none⟩ (.string ((rd_T26 l0 x7_1).f0))).setCell ⟨gb497, 1, none⟩ (.string ((rd_T26 l0 x7_1).f1))) = w14 at n0_ n1_ ⊢
        have BK497 := n0_
        have HB := n1_
        clear n0_ n1_
        replace BK497 := q_ (blk_drew BK497.out)
        replace HB := q_ (below_drew1 HB.out)
        have p499 : 0 ≤ ((ji8) : Int) := od_
        have q499 : (ji8) < (l0.length : Int) := od_
        obtain ⟨ad499, e499, hx499_0, hx499_1⟩ := at_T26 HR0.out (ji8) p499 q499
        have hw499_1 := hx499_1
        have hw499_0 := hx499_0
        obtain rfl : ad496 = ad499 := (by injection e499)
        replace hx499_0 := hc_ HB.out hx499_0
        replace hx499_1 := hc_ HB.out hx499_1
        replace p499 := eq_true p499
        replace q499 := eq_true q499
        refine start_ (n := 18) (S := fun w' => w'.cell? ⟨gb497, 0, none⟩ = some (.string ((rd_T26 l0 x7_1).f0)) ∧ w'.cell? ⟨gb497, 1, none⟩ = some (.string ((rd_T26 l0 x7_1).f1)) ∧ w'.cell? (ad496.add (((ji8)).toNat * 2)) = some (.string ((rd_T26 l0 (ji8)).f0)) ∧ w'.cell? ⟨(ad496.add (((ji8)).toNat * 2)).block, (ad496.add (((ji8)).toNat * 2)).off + 1, none⟩ = some (.string ((rd_T26 l0 (ji8)).f1))) (ds := []) (bq_ 0 18) (by kernel_rfl) rfl rfl ⟨(blk_cell BK497.out 0).trans rfl, (blk_cell BK497.out 1).trans rfl, (hc_ HB.out hw499_0), (hc_ HB.out hw499_1)⟩ (fun hHeld => ?_); refine with_tabW impl_PairsOk.tab4 impl_PairsOk.bits4 (fun HT_ HW_ => ?_)
        generalize w14.drew = w15 at BK497 HB hx499_0 hx499_1 hHeld ⊢
        refine k_ 0 12 HT_ HW_ hHeld ?_
        refine oc_ 1 13 (bq_ 2 16) HT_ Try.func84 #[.agg #[.string ((rd_T26 l0 x7_1).f0), .string ((rd_T26 l0 x7_1).f1)]] ?_
        with_reducible refine (impl_PairOk.calls k1 ((rd_T26 l0 x7_1).f0) ((rd_T26 l0 x7_1).f1) true _ A5.out).mono ?_
        rintro e w16 ⟨rfl, hb⟩
        refine ⟨_, rfl, ?_⟩
        replace BK497 := q_ (bb_ BK497.out hb)
        replace HB := q_ (below_step (bs_ HB.out GE497.out) hb)
        (try clear hb)
        (try clear hb2)
        (try clear hk)
        (try clear hi)
        refine ⟨⟨(blk_cell BK497.out 0).trans rfl, (blk_cell BK497.out 1).trans rfl, (hc_ HB.out hw499_0), (hc_ HB.out hw499_1)⟩, fun hHeld => nm_ ?_⟩
        refine p_ 2 14 HT_ ?_; refine p_ 3 15 HT_ ?_; refine p_ 4 16 HT_ ?_; refine p_ 5 17 HT_ ?_; refine p_ 6 18 HT_ ?_; refine p_ 7 19 HT_ ?_; refine p_ 9 21 HT_ ?_; refine p_ 10 22 HT_ ?_; refine p_ 11 23 HT_ ?_; refine p_ 12 24 HT_ ?_; refine p_ 13 25 HT_ ?_; refine k_ 8 20 HT_ HW_ hHeld ?_; refine k_ 14 26 HT_ HW_ hHeld ?_; refine p_ 15 27 HT_ ?_; refine p_ 16 28 HT_ ?_; refine p_ 17 29 HT_ ?_
        refine done_ (done_of HT_.out (by kernel_rfl)) ?_
        try go_wp2
        go_roundg k1
        case measure => have := HK1.out; omega
        case rel => exact ⟨(wrap64 (x7_1 + 1)), rs_, H', ⟨by have := HK1.out; omega⟩, ⟨bs_ HB.out GE497.out⟩⟩
      rw [if_neg c11] at H
      have c11b0 : (Op.bytesLess (((rd_T26 l0 (ji8)).f0).toList) (((rd_T26 l0 x7_1).f0).toList)) = false := by simpa using c11
      clear c11
      obtain rfl := Option.some.inj H
      have p496 : 0 ≤ (x7_1 : Int) := od_
      have q496 : x7_1 < (l0.length : Int) := od_
      obtain ⟨ad496, e496, hx496_0, hx496_1⟩ := at_T26 HR0.out x7_1 p496 q496
      cases e496
      replace hx496_0 := hc_ HB.out hx496_0
      replace hx496_1 := hc_ HB.out hx496_1
      replace p496 := eq_true p496
      replace q496 := eq_true q496
      try go_wp2_with (first | ((with_reducible refine gate_dst (N := 4) rfl ?_); refine box_event rfl (N := 4) rfl (cs := #[.string (⟨#[]⟩ : ByteArray), .string (⟨#[]⟩ : ByteArray)]) (t := 26) hr_ ?_; intro gb497 hg w17 hbox hb; have BK497 := q_ (hbox); have GW497 := q_ ((by rw [hg]; exact (below_size (be_ HB.out)) : w.heap.size ≤ gb497)); have GE497 := q_ ((by rw [hg]; exact (below_size (be_ HB.out)) : w.heap.size ≤ gb497)); replace HB := q_ (below_step (be_ HB.out) hb); clear hb hbox hg; obtain ⟨hcz18_0, hcz18_1, hfz18_0, hfz18_1⟩ := bx2_ BK497.out))
      have n0_ : Aside0 (((w17.setCell ⟨gb497, 0, none⟩ (.string ((rd_T26 l0 x7_1).f0))).setCell ⟨gb497, 1, none⟩ (.string ((rd_T26 l0 x7_1).f1))).heap[gb497]? = some (.cells #[.string ((rd_T26 l0 x7_1).f0), .string ((rd_T26 l0 x7_1).f1)] 26 (0, 0))) := ⟨by (with_reducible repeat (first | refine blk_drewN ?_ _ | refine blk_drew ?_ | refine blk_alloc ?_ _)); refine blk_put (cs := #[.string ((rd_T26 l0 x7_1).f0), .string (⟨#[]⟩ : ByteArray)]) ?_ 1 _ rfl; (with_reducible repeat (first | refine blk_drewN ?_ _ | refine blk_drew ?_ | refine blk_alloc ?_ _)); refine blk_put (cs := #[.string (⟨#[]⟩ : ByteArray), .string (⟨#[]⟩ : ByteArray)]) ?_ 0 _ rfl; (with_reducible repeat (first | refine blk_drewN ?_ _ | refine blk_drew ?_ | refine blk_alloc ?_ _)); exact BK497.out⟩
      have n1_ : Aside0 (Below w.heap.size w ((w17.setCell ⟨gb497, 0, none⟩ (.string ((rd_T26 l0 x7_1).f0))).setCell ⟨gb497, 1, none⟩ (.string ((rd_T26 l0 x7_1).f1)))) := ⟨bs_ HB.out GE497.out⟩
      (try clear BK497)
      (try clear HB)
      generalize ((w17.setCell ⟨gb497, 0, none⟩ (.string ((rd_T26 l0 x7_1).f0))).setCell ⟨gb497, 1, none⟩ (.string ((rd_T26 l0 x7_1).f1))) = w19 at n0_ n1_ ⊢
      have BK497 := n0_
      have HB := n1_
      clear n0_ n1_
      replace BK497 := q_ (blk_drew BK497.out)
      replace HB := q_ (below_drew1 HB.out)
      have p499 : 0 ≤ ((ji8) : Int) := od_
      have q499 : (ji8) < (l0.length : Int) := od_
      obtain ⟨ad499, e499, hx499_0, hx499_1⟩ := at_T26 HR0.out (ji8) p499 q499
      have hw499_1 := hx499_1
      have hw499_0 := hx499_0
      obtain rfl : ad496 = ad499 := (by injection e499)
      replace hx499_0 := hc_ HB.out hx499_0
      replace hx499_1 := hc_ HB.out hx499_1
      replace p499 := eq_true p499
      replace q499 := eq_true q499
      refine start_ (n := 18) (S := fun w' => w'.cell? ⟨gb497, 0, none⟩ = some (.string ((rd_T26 l0 x7_1).f0)) ∧ w'.cell? ⟨gb497, 1, none⟩ = some (.string ((rd_T26 l0 x7_1).f1)) ∧ w'.cell? (ad496.add (((ji8)).toNat * 2)) = some (.string ((rd_T26 l0 (ji8)).f0)) ∧ w'.cell? ⟨(ad496.add (((ji8)).toNat * 2)).block, (ad496.add (((ji8)).toNat * 2)).off + 1, none⟩ = some (.string ((rd_T26 l0 (ji8)).f1))) (ds := []) (bq_ 0 18) (by kernel_rfl) rfl rfl ⟨(blk_cell BK497.out 0).trans rfl, (blk_cell BK497.out 1).trans rfl, (hc_ HB.out hw499_0), (hc_ HB.out hw499_1)⟩ (fun hHeld => ?_); refine with_tabW impl_PairsOk.tab4 impl_PairsOk.bits4 (fun HT_ HW_ => ?_)
      generalize w19.drew = w20 at BK497 HB hx499_0 hx499_1 hHeld ⊢
      refine k_ 0 12 HT_ HW_ hHeld ?_
      refine oc_ 1 13 (bq_ 2 16) HT_ Try.func84 #[.agg #[.string ((rd_T26 l0 x7_1).f0), .string ((rd_T26 l0 x7_1).f1)]] ?_
      with_reducible refine (impl_PairOk.calls k1 ((rd_T26 l0 x7_1).f0) ((rd_T26 l0 x7_1).f1) true _ A5.out).mono ?_
      rintro e w21 ⟨rfl, hb⟩
      refine ⟨_, rfl, ?_⟩
      replace BK497 := q_ (bb_ BK497.out hb)
      replace HB := q_ (below_step (bs_ HB.out GE497.out) hb)
      (try clear hb)
      (try clear hb2)
      (try clear hk)
      (try clear hi)
      refine ⟨⟨(blk_cell BK497.out 0).trans rfl, (blk_cell BK497.out 1).trans rfl, (hc_ HB.out hw499_0), (hc_ HB.out hw499_1)⟩, fun hHeld => nm_ ?_⟩
      refine p_ 2 14 HT_ ?_; refine p_ 3 15 HT_ ?_; refine p_ 4 16 HT_ ?_; refine p_ 5 17 HT_ ?_; refine p_ 6 18 HT_ ?_; refine p_ 7 19 HT_ ?_; refine p_ 9 21 HT_ ?_; refine p_ 10 22 HT_ ?_; refine p_ 11 23 HT_ ?_; refine p_ 12 24 HT_ ?_; refine p_ 13 25 HT_ ?_; refine k_ 8 20 HT_ HW_ hHeld ?_; refine k_ 14 26 HT_ HW_ hHeld ?_; refine p_ 15 27 HT_ ?_; refine p_ 16 28 HT_ ?_; refine p_ 17 29 HT_ ?_
      refine done_ (done_of HT_.out (by kernel_rfl)) ?_
      try go_wp2
      go_ret
      exact ⟨by first | rfl | (simp [errW_none, errW_some] <;> rfl) | (simp only [← hji8]; first | rfl | (simp [errW_none, errW_some] <;> rfl)) | (simp [*, errW_none, errW_some] <;> rfl), bs_ HB.out GE497.out⟩
    · rw [if_neg c2] at H
      have c2b0 := decide_eq_false c2
      clear c2
      obtain rfl := Option.some.inj H
      go_wp2
      go_ret
      exact ⟨rf_, be_ HB.out⟩

/-! ###  impl_putNum: function 87 -/
def impl_putNum.l0 : Nat → List Int → Int → Option (List Int)
  | 0, _, _ => none
  | k + 1, x0, x1 => if x1 > 127 then (if x0.length < 140737488355328 then (impl_putNum.l0 k (x0 ++ [(Go.bits .or .i64 128 (Go.bits .and .i64 x1 127)) % 256]) (x1 / 128)) else (none)) else (if x0.length < 140737488355328 then (some (x0 ++ [(x1) % 256])) else (none))
def impl_putNum.f (k : Nat) (l0 : List Int) (a1 : Int) : Option (List Int) := impl_putNum.l0 k l0 (mx 0 (mn a1 1000000000))
set_option maxHeartbeats 8000000 in
set_option maxRecDepth 100000 in
theorem impl_putNum.calls (k : Nat) (P0_ : Nat → Prop) (u9000_ : Value) (l0 : List Int) (a1 : Int) (r : List Int) (w0 w : World) (hB : Below w0.heap.size w0 w) (ho0 : Kd.R (Kd.int .u8) 5 w w0.heap.size P0_ u9000_ l0) (h : impl_putNum.f k l0 a1 = some r) :
  Calls Try.prog 87 #[u9000_, .int .i64 a1] w fun e w' => ∃ v0_ : Value, e = .returned (v0_) ∧ Kd.R (Kd.int .u8) 5 w' w0.heap.size (fun k_ => (P0_ k_ ∨ w.heap.size ≤ k_)) v0_ r ∧ Below w0.heap.size w0 w' ∧ Kept w w' (fun k_ => P0_ k_) := by
  have HO0 := q_ (show Kd.R (Kd.int .u8) 5 w w0.heap.size (fun k_ => (P0_ k_ ∨ w.heap.size ≤ k_)) u9000_ l0 from Kd.R_mono ho0 (fun k_ hk => (.inl hk)))
  have HK := q_ (Kept.refl w (fun k_ => P0_ k_))
  have HW0 := Aside0.mk hB.size
  have HB := Aside0.mk hB
  clear hB
  have H := h
  clear h
  unfold impl_putNum.f at H
  obtain ⟨ji3, hji3⟩ : ∃ j_ : Int, (mn a1 1000000000) = j_ := ⟨_, rfl⟩
  replace H : (impl_putNum.l0 k l0 (mx 0 (ji3))) = some r := by first | (rw [hji3] at H; exact H) | (simp only [hji3] at H ⊢; exact H)
  (try (have hji3h : ji3 ≤ 1000000000 := by (rw [← hji3]; unfold mn; (repeat' split) <;> omega)))
  (try (have hji3g : ji3 ≤ 64 := by omega))
  have hji3_ : (if 1000000000 < a1 then 1000000000 else a1) = ji3 := hji3
  obtain ⟨ji4, hji4⟩ : ∃ j_ : Int, (mx 0 (ji3)) = j_ := ⟨_, rfl⟩
  replace H : (impl_putNum.l0 k l0 ji4) = some r := by first | (rw [hji4] at H; exact H) | (simp only [hji4] at H ⊢; exact H)
  have hji4_ : (if 0 < (ji3) then (ji3) else 0) = ji4 := hji4
  have H' := Aside0.mk H
  clear H
  go_enter Try.func87, Try.ntmps87
  go_wp2
  go_loopg [0, 1] k (fun kq v0 v1 w' => ∃ (x0_1 : List Int) (x1_1 : Int), v1 = .int .i64 x1_1 ∧ Aside0 (impl_putNum.l0 kq x0_1 x1_1 = some r) ∧ Aside0 (kq ≤ k) ∧ Aside0 (Kd.R (Kd.int .u8) 5 w' w0.heap.size (fun k_ => (P0_ k_ ∨ w.heap.size ≤ k_)) v0 x0_1) ∧ Aside0 (Kept w w' (fun k_ => P0_ k_)) ∧ Aside0 (Below w0.heap.size w0 w'))
  case atStart => exact ⟨(l0), (ji4), (by first | rfl | (simp; done) | (simp only [← hji4] <;> (first | rfl | simp)) | (simp [*]; done)), H', ⟨Nat.le_refl _⟩, ⟨by (with_reducible repeat (first | apply Kd.R_alloc | apply Kd.R_drewN | apply Kd.R_drew)); exact HO0.out⟩, ⟨by repeat (first | (with_reducible first | exact HK.out | apply Kept.alloc | apply Kept.drewN | apply Kept.drew) | exact HK.out)⟩, ⟨be_ HB.out⟩⟩
  case round =>
   clear H'
   try clear p2
   obtain ⟨x0_1, x1_1, rfl, HA, HK1, HO_0, HK, HB⟩ := hrel
   cases gk with
   | zero => exact absurd HA.out (by simp [impl_putNum.l0])
   | succ k1 =>
    have H := HA.out
    clear HA
    simp only [impl_putNum.l0] at H
    by_cases c5 : x1_1 > 127
    · rw [if_pos c5] at H
      have c5b0 : decide (127 < x1_1) = true := decide_eq_true c5
      clear c5
      obtain ⟨c6, H⟩ := ip_ H
      have LMc6 := Aside0.mk c6
      clear c6
      obtain ⟨y500, hy500⟩ : ∃ y_ : List Int, y_ = (x0_1 ++ [(Go.bits .or .i64 128 (Go.bits .and .i64 x1_1 127)) % 256]) := ⟨_, rfl⟩
      replace H : (impl_putNum.l0 k1 y500 (x1_1 / 128)) = some r := ry_ hy500 H
      have Ny500 := Aside0.mk hy500
      clear hy500
      have H' := Aside0.mk H
      clear H
      go_wp2_with (first | ((with_reducible refine gate_builtin (b := .append) (xs := #[.tmp 10, .tmp 15]) rfl ?_); at_builtin; refine Kd.R_append (Kd.int .u8) (w0 := w0) w0.heap.size rfl (.tmp 10) (.tmp 15) 22 5 (.int .u8 0) 1 rfl Try.underlying22 info5 rfl (by decide) (by omega) u0 x0_1 ((Go.bits .or .i64 128 (Go.bits .and .i64 x1_1 127)) % 256) [.int .u8 ((Go.bits .or .i64 128 (Go.bits .and .i64 x1_1 127)) % 256)] (fun k_ => (P0_ k_ ∨ w.heap.size ≤ k_)) (fun _ => False) rfl rfl ?aP (fun _ hk => hk.elim) ?aF ?aO ?aB ?aS ?aL ?_; (case aP => exact rfl); (case aB => exact (be_ HB.out)); (case aF => exact (fun k_ hk => (.inr (Nat.le_trans (by first | exact HK.out.1 | exact (show Kept w _ (fun k_ => P0_ k_) from by repeat (first | (with_reducible first | exact HK.out | apply Kept.alloc | apply Kept.drewN | apply Kept.drew) | exact HK.out)).1) hk)))); (case aO => exact (kr_ HO_0.out)); (case aS => exact (below_size (be_ HB.out))); (case aL => have := LMc6.out; omega); intro v501 w7 ho hb hg hat; rw [← Ny500.out] at ho; have n0_ := q_ (hb); have n1_ := q_ (Kept.of_grown (S := (fun k_ => P0_ k_)) hg (by repeat (first | (with_reducible first | exact HK.out | apply Kept.alloc | apply Kept.drewN | apply Kept.drew) | exact HK.out)) (fun k_ e_ => (HO_0.out.1 k_ e_))); have n2_ := q_ (ho); clear HB; clear HK; clear HO_0; have HB := n0_; have HK := n1_; have HO502 := n2_; clear n0_ n1_ n2_; clear ho hb hg hat))
      go_roundg k1
      case measure => have := HK1.out; omega
      case rel => exact ⟨(y500), (x1_1 / 128), rs_, H', ⟨by have := HK1.out; omega⟩, ⟨by (with_reducible repeat (first | apply Kd.R_alloc | apply Kd.R_drewN | apply Kd.R_drew)); exact HO502.out⟩, ⟨by repeat (first | (with_reducible first | exact HK.out | apply Kept.alloc | apply Kept.drewN | apply Kept.drew) | exact HK.out)⟩, ⟨be_ HB.out⟩⟩
    · rw [if_neg c5] at H
      have c5b0 : decide (127 < x1_1) = false := decide_eq_false c5
      clear c5
      obtain ⟨c8, H⟩ := ip_ H
      have LMc8 := Aside0.mk c8
      clear c8
      obtain ⟨y503, hy503⟩ : ∃ y_ : List Int, y_ = (x0_1 ++ [(x1_1) % 256]) := ⟨_, rfl⟩
      replace H : (some y503) = some r := ry_ hy503 H
      have Ny503 := Aside0.mk hy503
      clear hy503
      obtain rfl := Option.some.inj H
      go_wp2_with (first | ((with_reducible refine gate_builtin (b := .append) (xs := #[.tmp 19, .tmp 22]) rfl ?_); at_builtin; refine Kd.R_append (Kd.int .u8) (w0 := w0) w0.heap.size rfl (.tmp 19) (.tmp 22) 22 5 (.int .u8 0) 1 rfl Try.underlying22 info5 rfl (by decide) (by omega) u0 x0_1 ((x1_1) % 256) [.int .u8 ((x1_1) % 256)] (fun k_ => (P0_ k_ ∨ w.heap.size ≤ k_)) (fun _ => False) rfl rfl ?aP (fun _ hk => hk.elim) ?aF ?aO ?aB ?aS ?aL ?_; (case aP => exact rfl); (case aB => exact (be_ HB.out)); (case aF => exact (fun k_ hk => (.inr (Nat.le_trans (by first | exact HK.out.1 | exact (show Kept w _ (fun k_ => P0_ k_) from by repeat (first | (with_reducible first | exact HK.out | apply Kept.alloc | apply Kept.drewN | apply Kept.drew) | exact HK.out)).1) hk)))); (case aO => exact (kr_ HO_0.out)); (case aS => exact (below_size (be_ HB.out))); (case aL => have := LMc8.out; omega); intro v504 w9 ho hb hg hat; rw [← Ny503.out] at ho; have n0_ := q_ (hb); have n1_ := q_ (Kept.of_grown (S := (fun k_ => P0_ k_)) hg (by repeat (first | (with_reducible first | exact HK.out | apply Kept.alloc | apply Kept.drewN | apply Kept.drew) | exact HK.out)) (fun k_ e_ => (HO_0.out.1 k_ e_))); have n2_ := q_ (ho); clear HB; clear HK; clear HO_0; have HB := n0_; have HK := n1_; have HO505 := n2_; clear n0_ n1_ n2_; clear ho hb hg hat))
      go_ret
      exact ⟨_, by first | rfl | (simp [errW_none, errW_some] <;> rfl) | (simp only [← hji3, ← hji4]; first | rfl | (simp [errW_none, errW_some] <;> rfl)) | (simp [*, errW_none, errW_some] <;> rfl), by (with_reducible repeat (first | apply Kd.R_alloc | apply Kd.R_drewN | apply Kd.R_drew)); exact HO505.out, be_ HB.out, by repeat (first | (with_reducible first | exact HK.out | apply Kept.alloc | apply Kept.drewN | apply Kept.drew) | exact HK.out)⟩

/-! ###  impl_rootBytes: function 45 -/
def impl_rootBytes.f (k : Nat) (a0 : Int) (a1 : ByteArray) : Option (List Int) := (impl_putNum.f k (([2] : List Int)) a0).bind fun t509 => (if t509.length + a1.size < 140737488355328 then (some (t509 ++ bytesOf a1)) else (none))
set_option maxHeartbeats 8000000 in
set_option maxRecDepth 100000 in
theorem impl_rootBytes.calls (k : Nat) (a0 : Int) (a1 : ByteArray) (r : List Int) (w : World) (h : impl_rootBytes.f k a0 a1 = some r) :
  Calls Try.prog 45 #[.int .i64 a0, .string a1] w fun e w' => ∃ v0_ : Value, e = .returned (v0_) ∧ Kd.R (Kd.int .u8) 5 w' w.heap.size (fun _ => True) v0_ r ∧ Below w.heap.size w w' := by
  have HB := q_ (Below.refl w.heap.size w)
  have H := h
  clear h
  unfold impl_rootBytes.f at H
  obtain ⟨y506, hy506⟩ : ∃ y_ : List Int, y_ = (([2] : List Int)) := ⟨_, rfl⟩
  replace H : ((impl_putNum.f k y506 a0).bind fun t509 => (if t509.length + a1.size < 140737488355328 then (some (t509 ++ bytesOf a1)) else (none))) = some r := ry_ hy506 H
  have Ny506 := Aside0.mk hy506
  clear hy506
  obtain ⟨t509, A3, H⟩ := bo_ H
  obtain ⟨c4, H⟩ := ip_ H
  have LMc4 := Aside0.mk c4
  clear c4
  obtain ⟨y512, hy512⟩ : ∃ y_ : List Int, y_ = (t509 ++ bytesOf a1) := ⟨_, rfl⟩
  replace H : (some y512) = some r := ry_ hy512 H
  have Ny512 := Aside0.mk hy512
  clear hy512
  obtain rfl := Option.some.inj H
  go_enter Try.func45, Try.ntmps45
  go_wp2_with (first | ((with_reducible refine gate_dst (N := 5) rfl ?_); refine Kd.R_lit (Kd.int .u8) _ 5 ?hg (N := 5) ?hd (xs := ([2] : List Int)) (inner := [.int .u8 2]) (ok := fun _ => True) (okp := fun _ => True) ?hr ?hp (fun _ hk => hk) trivial (Below.refl _ _) (Nat.le_refl _) (by simp) ?_; (case hd => rfl); (case hg => rfl); (case hr => first | (go_simp; done) | (go_simp; rfl)); (case hp => exact (Reps.one (show Kd.M (Kd.int .u8) _ _ _ 2 [.int .u8 2] from rfl) (Reps.none _ _))); intro v507 w5 ho6 hb hg_ hnew_; clear hg_ hnew_; (first | rw [← Ny506.out] at ho6 | (simp only [Int.reduceToNat] at ho6; rw [← Ny506.out] at ho6)); have HO508 := q_ (Kd.R_lower ho6 (below_size (be_ HB.out))); replace HB := q_ (below_step (be_ HB.out) hb); clear hb ho6; obtain ⟨Ao7, co7, eo7⟩ := Kd.R_slice HO508.out; subst eo7) | ((with_reducible refine gate_callee (f := 87) rfl ?_); refine gl_ (some 7) Try.func87 #[.slice Ao7 y506.length co7, .int .i64 a0] rfl al_ ?_; (with_reducible refine (impl_putNum.calls k (fun k_ => some k_ = (.slice Ao7 y506.length co7 : Value).ownBlock) (.slice Ao7 y506.length co7) y506 a0 t509 w _ ?side1 ?side2 A3.out).mono ?_); (case side1 => repeat (first | (with_reducible first | exact HB.out | apply below_alloc | apply pw_below_drewN | apply below_drew1) | exact HB.out)); (case side2 => exact Kd.R_tight rfl HO508.out); rintro e w8 ⟨v510, rfl, ho0, hb, hkp⟩; refine ⟨_, rfl, ?_⟩; have n0_ := q_ (Kd.R_mono (ok' := fun k_ => True) ho0 (fun k_ hk_ => trivial)); have n1_ := q_ (hb); clear HB; clear HO508; have HO511 := n0_; have HB := n1_; clear n0_ n1_; (try clear hb); (try clear hkp); (try clear ho0)) | ((with_reducible refine gate_builtin (b := .append) (xs := #[.tmp 7, _]) rfl ?_); at_builtin; refine Kd.R_append_str (w0 := w) w.heap.size rfl (.tmp 7) _ 22 9 5 rfl Try.underlying22 Try.underlying9 info5 v510 t509 a1 (fun _ => True) rfl rfl ?aF ?aO ?aB ?aS ?aL ?_; (case aB => exact (be_ HB.out)); (case aF => exact (fun _ _ => trivial)); (case aO => exact (kr_ HO511.out)); (case aS => exact (below_size (be_ HB.out))); (case aL => have := LMc4.out; omega); intro v513 w9 ho hb hg hat; rw [← Ny512.out] at ho; have n0_ := q_ (hb); have n1_ := q_ (ho); clear HB; clear HO511; have HB := n0_; have HO514 := n1_; clear n0_ n1_; clear ho hb hg hat))
  go_ret
  exact ⟨_, rf_, by (with_reducible repeat (first | apply Kd.R_alloc | apply Kd.R_drewN | apply Kd.R_drew)); exact HO514.out, be_ HB.out⟩

/-! ###  slices_Clone_byte_byte: function 71 -/
-- by hand
def slices_Clone_byte_byte.f (l0 : List Int) : Option (List Int) := if l0.length < 140737488355328 then some l0 else none
set_option maxHeartbeats 8000000 in
set_option maxRecDepth 100000 in
theorem slices_Clone_byte_byte.calls (A0 : Option Addr) (c0 : Nat) (l0 : List Int) (r : List Int) (w : World) (hr0 : Kd.C (Kd.int .u8) w A0 l0.length l0) (hc0 : l0.length ≤ c0) (h : slices_Clone_byte_byte.f l0 = some r) :
  Calls Try.prog 71 #[.slice A0 l0.length c0] w fun e w' => ∃ v0_ : Value, e = .returned (v0_) ∧ Kd.R (Kd.int .u8) 5 w' w.heap.size (fun _ => True) v0_ r ∧ Below w.heap.size w w' := by
  unfold slices_Clone_byte_byte.f at h
  by_cases c3 : l0.length < 140737488355328
  · rw [if_pos c3] at h
    obtain rfl := Option.some.inj h
    clear h
    cases A0 with
    | none =>
     have hl : l0.length = 0 := by
      rcases Nat.eq_zero_or_pos l0.length with h0 | h0
      · exact h0
      · obtain ⟨ad, e, _⟩ := hr0.2.2 h0
        cases e
     obtain rfl : l0 = [] := List.eq_nil_of_length_eq_zero hl
     have hq : ∀ W : World, Sem.run Try.prog (binOp .eql 22 (.slice none 0 c0) (.slice none 0 0)) W = .ok (.bool true) W := fun W => Lib.run_eql_slice_nil W 22 5 none 0 c0 0 0 Try.underlying22
     go_enter Try.func71, Try.ntmps71
     go_wp2
     go_ret
     exact ⟨_, rfl, Kd.R_nil _ _ _ _ _, Below.refl _ _⟩
    | some ad =>
     have HR0 := Aside0.mk hr0
     have LM := Aside0.mk c3
     clear hr0 hc0 c3
     have HB := q_ (Below.refl w.heap.size w)
     have hq : ∀ W : World, Sem.run Try.prog (binOp .eql 22 (.slice (some ad) l0.length c0) (.slice none 0 0)) W = .ok (.bool false) W := fun W => Lib.run_eql_slice_nil W 22 5 (some ad) _ c0 0 0 Try.underlying22
     go_enter Try.func71, Try.ntmps71
     go_wp2_with (first | ((with_reducible refine gate_dst (N := 5) rfl ?_); refine Kd.R_lit (Kd.int .u8) _ 5 ?hg (N := 5) ?hd (xs := ([] : List Int)) (inner := []) (ok := fun _ => True) (okp := fun _ => True) ?hr ?hp (fun _ hk => hk) trivial (Below.refl _ _) (Nat.le_refl _) (by simp) ?_; (case hd => rfl); (case hg => rfl); (case hr => first | (go_simp; done) | (go_simp; rfl)); (case hp => exact (Reps.none _ _)); intro v230 w5 ho6 hb hg_ hnew_; clear hg_ hnew_; have HO := q_ (Kd.R_lower ho6 (below_size HB.out)); replace HB := q_ (below_step HB.out hb); clear hb ho6) | ((with_reducible refine gate_builtin (b := .append) (xs := #[.tmp 5, .tmp 6]) rfl ?_); at_builtin; refine Kd.R_append_rows (Kd.int .u8) (w0 := w) w.heap.size rfl (.tmp 5) (.tmp 6) 22 5 (.int .u8 0) 1 rfl Try.underlying22 info5 rfl (by decide) (by omega) v230 ([] : List Int) l0 _ _ _ (fun _ => True) (fun _ => False) rfl rfl ?aO ?aR (fun _ _ h => h) (fun _ h => h.elim) ?aF ?aB ?aS ?aL ?_; (case aR => exact (Kd.C_below HR0.out HB.out)); (case aB => exact HB.out); (case aF => exact (fun _ _ => trivial)); (case aO => exact HO.out); (case aS => exact (below_size HB.out)); (case aL => have := LM.out; simp; omega); intro v233 w7 ho hb hg hat; replace HB := q_ (hb); replace HO := q_ (ho); clear ho hb hg hat))
     go_ret
     exact ⟨_, rfl, by have h_ := HO.out; rwa [List.nil_append] at h_, HB.out⟩
  · rw [if_neg c3] at h
    exact absurd h (by simp)


/-! ###  impl_Padded: function 95 -/
mutual
def impl_Padded.l0 : Nat → List Int → List Int → Option (List Int)
  | 0, _, _ => none
  | k + 1, x0, x3 => if (Int.tmod (wrap64 ((x3.length : Int) + 8)) 64) = 0 then (impl_Padded.l1 k x3 (wrap64 (8 * (x0.length : Int))) 7) else (if x3.length < 140737488355328 then (impl_Padded.l0 k x0 (x3 ++ [0])) else (none))
def impl_Padded.l1 : Nat → List Int → Int → Int → Option (List Int)
  | 0, _, _, _ => none
  | k + 1, x3, x4, x5 => if x5 ≥ 0 then (if 0 ≤ (IntKind.u64.wrap (wrap64 (8 * x5))) then (if x3.length < 140737488355328 then (impl_Padded.l1 k (x3 ++ [(shr .i64 x4 (IntKind.u64.wrap (wrap64 (8 * x5)))) % 256]) x4 (wrap64 (x5 - 1))) else (none)) else (none)) else (some x3)
end
def impl_Padded.f (k : Nat) (l0 : List Int) : Option (List Int) := (slices_Clone_byte_byte.f l0).bind fun t515 => (if t515.length < 140737488355328 then (impl_Padded.l0 k l0 (t515 ++ [128])) else (none))
set_option maxHeartbeats 8000000 in
set_option maxRecDepth 100000 in
theorem impl_Padded.calls (k : Nat) (A0 : Option Addr) (c0 : Nat) (l0 : List Int) (r : List Int) (w : World) (hr0 : Kd.C (Kd.int .u8) w A0 l0.length l0) (hc0 : l0.length ≤ c0) (h : impl_Padded.f k l0 = some r) :
  Calls Try.prog 95 #[.slice A0 l0.length c0] w fun e w' => ∃ v0_ : Value, e = .returned (v0_) ∧ Kd.R (Kd.int .u8) 5 w' w.heap.size (fun _ => True) v0_ r ∧ Below w.heap.size w w' := by
  have HR0 := Aside0.mk hr0
  have HC0 := Aside0.mk hc0
  clear hr0 hc0
  have HB := q_ (Below.refl w.heap.size w)
  have H := h
  clear h
  unfold impl_Padded.f at H
  obtain ⟨t515, A2, H⟩ := bo_ H
  obtain ⟨c3, H⟩ := ip_ H
  have LMc3 := Aside0.mk c3
  clear c3
  obtain ⟨y518, hy518⟩ : ∃ y_ : List Int, y_ = (t515 ++ [128]) := ⟨_, rfl⟩
  replace H : (impl_Padded.l0 k l0 y518) = some r := ry_ hy518 H
  have Ny518 := Aside0.mk hy518
  clear hy518
  have H' := Aside0.mk H
  clear H
  go_enter Try.func95, Try.ntmps95
  go_wp2_with (first | ((with_reducible refine gate_callee (f := 71) rfl ?_); refine gl_ (some 7) Try.func71 #[.slice A0 l0.length c0] rfl al_ ?_; (with_reducible refine (slices_Clone_byte_byte.calls _ _ l0 t515 _ ?side1 ?side2 A2.out).mono ?_); (case side1 => exact kc_ HR0.out); (case side2 => exact HC0.out); rintro e w4 ⟨v516, rfl, ho0, hb⟩; refine ⟨_, rfl, ?_⟩; have HO517 := q_ (Kd.R_lower ho0 (below_size (be_ HB.out))); replace HB := q_ (below_step (be_ HB.out) hb); (try clear hb); (try clear ho0)) | ((with_reducible refine gate_builtin (b := .append) (xs := #[.tmp 7, .tmp 8]) rfl ?_); at_builtin; refine Kd.R_append (Kd.int .u8) (w0 := w) w.heap.size rfl (.tmp 7) (.tmp 8) 22 5 (.int .u8 0) 1 rfl Try.underlying22 info5 rfl (by decide) (by omega) v516 t515 128 [.int .u8 128] (fun _ => True) (fun _ => False) rfl rfl ?aP (fun _ hk => hk.elim) ?aF ?aO ?aB ?aS ?aL ?_; (case aP => exact rfl); (case aB => exact (be_ HB.out)); (case aF => exact (fun _ _ => trivial)); (case aO => exact (kr_ HO517.out)); (case aS => exact (below_size (be_ HB.out))); (case aL => have := LMc3.out; omega); intro v519 w5 ho hb hg hat; rw [← Ny518.out] at ho; have n0_ := q_ (hb); have n1_ := q_ (ho); clear HB; clear HO517; have HB := n0_; have HO520 := n1_; clear n0_ n1_; clear ho hb hg hat))
  go_loopg [3] k (fun kq v3 w' => ∃ (x3_1 : List Int), Aside0 (impl_Padded.l0 kq l0 x3_1 = some r) ∧ Aside0 (kq ≤ k) ∧ Aside0 (Kd.R (Kd.int .u8) 5 w' w.heap.size (fun _ => True) v3 x3_1) ∧ Aside0 (Below w.heap.size w w'))
  case atStart => exact ⟨(y518), H', ⟨Nat.le_refl _⟩, ⟨by (with_reducible repeat (first | apply Kd.R_alloc | apply Kd.R_drewN | apply Kd.R_drew)); exact HO520.out⟩, ⟨be_ HB.out⟩⟩
  case round =>
   clear H'
   try clear p2
   try clear c3
   obtain ⟨x3_1, HA, HK1, HO_3, HB⟩ := hrel
   cases gk with
   | zero => exact absurd HA.out (by simp [impl_Padded.l0])
   | succ k1 =>
    have H := HA.out
    clear HA
    simp only [impl_Padded.l0] at H
    by_cases c6 : (Int.tmod (wrap64 ((x3_1.length : Int) + 8)) 64) = 0
    · rw [if_pos c6] at H
      have c6b0 := beq_iff_eq.mpr c6
      have c6b1 := bne_eq_false_iff_eq.mpr c6
      clear c6
      have H' := Aside0.mk H
      clear H
      obtain ⟨Ao7, co7, eo7⟩ := Kd.R_slice HO_3.out
      subst eo7
      go_wp2
      go_loopg [3, 5] k1 (fun kq v3 v5 w' => ∃ (x3_2 : List Int) (x5_2 : Int), v5 = .int .i64 x5_2 ∧ Aside0 (impl_Padded.l1 kq x3_2 (wrap64 (8 * (l0.length : Int))) x5_2 = some r) ∧ Aside0 (kq ≤ k1) ∧ Aside0 (Kd.R (Kd.int .u8) 5 w' w.heap.size (fun _ => True) v3 x3_2) ∧ Aside0 (Below w.heap.size w w'))
      case atStart => exact ⟨(x3_1), (7), rs_, H', ⟨Nat.le_refl _⟩, ⟨by (with_reducible repeat (first | apply Kd.R_alloc | apply Kd.R_drewN | apply Kd.R_drew)); exact HO_3.out⟩, ⟨be_ HB.out⟩⟩
      case round =>
       clear H'
       try clear p2
       try clear c3
       try clear c6
       try clear c6b0
       try clear c6b1
       try clear p6
       try clear c7
       try clear p2
       obtain ⟨x3_2, x5_2, rfl, HA, HK2, HO_3, HB⟩ := hrel
       cases gk with
       | zero => exact absurd HA.out (by simp [impl_Padded.l1])
       | succ k2 =>
        have H := HA.out
        clear HA
        simp only [impl_Padded.l1] at H
        by_cases c8 : x5_2 ≥ 0
        rotate_left
        · rw [if_neg c8] at H
          have c8b0 : decide (0 ≤ x5_2) = false := decide_eq_false c8
          clear c8
          obtain rfl := Option.some.inj H
          go_wp2
          go_ret
          exact ⟨_, rf_, by (with_reducible repeat (first | apply Kd.R_alloc | apply Kd.R_drewN | apply Kd.R_drew)); exact HO_3.out, be_ HB.out⟩
        rw [if_pos c8] at H
        have c8b0 : decide (0 ≤ x5_2) = true := decide_eq_true c8
        clear c8
        obtain ⟨ji9, hji9⟩ : ∃ j_ : Int, (IntKind.u64.wrap (wrap64 (8 * x5_2))) = j_ := ⟨_, rfl⟩
        replace H : (if 0 ≤ (ji9) then (if x3_2.length < 140737488355328 then (impl_Padded.l1 k2 (x3_2 ++ [(shr .i64 (wrap64 (8 * (l0.length : Int))) (ji9)) % 256]) (wrap64 (8 * (l0.length : Int))) (wrap64 (x5_2 - 1))) else (none)) else (none)) = some r := by first | (rw [hji9] at H; exact H) | (simp only [hji9] at H ⊢; exact H)
        obtain ⟨c10, H⟩ := ip_ H
        have c10b0 := eq_true c10
        have c10b1 : decide (0 ≤ (ji9)) = true := decide_eq_true c10
        clear c10
        obtain ⟨ji11, hji11⟩ : ∃ j_ : Int, (shr .i64 (wrap64 (8 * (l0.length : Int))) (ji9)) = j_ := ⟨_, rfl⟩
        replace H : (if x3_2.length < 140737488355328 then (impl_Padded.l1 k2 (x3_2 ++ [(ji11) % 256]) (wrap64 (8 * (l0.length : Int))) (wrap64 (x5_2 - 1))) else (none)) = some r := by first | (rw [hji11] at H; exact H) | (simp only [hji11] at H ⊢; exact H)
        have hji11_ : ((wrap64 (8 * (l0.length : Int))) / 2 ^ min (ji9).toNat 64) = ji11 := hji11
        have hji11z : (ji9) ≤ 64 → ((wrap64 (8 * (l0.length : Int))) / 2 ^ (ji9).toNat) = ji11 := shr_small hji11
        obtain ⟨c12, H⟩ := ip_ H
        have LMc12 := Aside0.mk c12
        clear c12
        obtain ⟨y524, hy524⟩ : ∃ y_ : List Int, y_ = (x3_2 ++ [(ji11) % 256]) := ⟨_, rfl⟩
        replace H : (impl_Padded.l1 k2 y524 (wrap64 (8 * (l0.length : Int))) (wrap64 (x5_2 - 1))) = some r := ry_ hy524 H
        have Ny524 := Aside0.mk hy524
        clear hy524
        have H' := Aside0.mk H
        clear H
        go_wp2_with (first | ((with_reducible refine gate_builtin (b := .append) (xs := #[.tmp 25, .tmp 32]) rfl ?_); at_builtin; refine Kd.R_append (Kd.int .u8) (w0 := w) w.heap.size rfl (.tmp 25) (.tmp 32) 22 5 (.int .u8 0) 1 rfl Try.underlying22 info5 rfl (by decide) (by omega) u3 x3_2 ((ji11) % 256) [.int .u8 ((ji11) % 256)] (fun _ => True) (fun _ => False) rfl rfl ?aP (fun _ hk => hk.elim) ?aF ?aO ?aB ?aS ?aL ?_; (case aP => exact rfl); (case aB => exact (be_ HB.out)); (case aF => exact (fun _ _ => trivial)); (case aO => exact (kr_ HO_3.out)); (case aS => exact (below_size (be_ HB.out))); (case aL => have := LMc12.out; omega); intro v525 w13 ho hb hg hat; rw [← Ny524.out] at ho; have n0_ := q_ (hb); have n1_ := q_ (ho); clear HB; clear HO_3; have HB := n0_; have HO526 := n1_; clear n0_ n1_; clear ho hb hg hat))
        go_roundg k2
        case measure => have := HK1.out; have := HK2.out; omega
        case rel => exact ⟨(y524), (wrap64 (x5_2 - 1)), rs_, H', ⟨by have := HK1.out; have := HK2.out; omega⟩, ⟨by (with_reducible repeat (first | apply Kd.R_alloc | apply Kd.R_drewN | apply Kd.R_drew)); exact HO526.out⟩, ⟨be_ HB.out⟩⟩
    · rw [if_neg c6] at H
      have c6b0 := beq_eq_false_iff_ne.mpr c6
      have c6b1 := bne_iff_ne.mpr c6
      obtain ⟨c14, H⟩ := ip_ H
      have LMc14 := Aside0.mk c14
      clear c14
      obtain ⟨y521, hy521⟩ : ∃ y_ : List Int, y_ = (x3_1 ++ [0]) := ⟨_, rfl⟩
      replace H : (impl_Padded.l0 k1 l0 y521) = some r := ry_ hy521 H
      have Ny521 := Aside0.mk hy521
      clear hy521
      have H' := Aside0.mk H
      clear H
      obtain ⟨Ao15, co15, eo15⟩ := Kd.R_slice HO_3.out
      subst eo15
      go_wp2_with (first | ((with_reducible refine gate_builtin (b := .append) (xs := #[.tmp 15, .tmp 16]) rfl ?_); at_builtin; refine Kd.R_append (Kd.int .u8) (w0 := w) w.heap.size rfl (.tmp 15) (.tmp 16) 22 5 (.int .u8 0) 1 rfl Try.underlying22 info5 rfl (by decide) (by omega) (.slice Ao15 x3_1.length co15) x3_1 0 [.int .u8 0] (fun _ => True) (fun _ => False) rfl rfl ?aP (fun _ hk => hk.elim) ?aF ?aO ?aB ?aS ?aL ?_; (case aP => exact rfl); (case aB => exact (be_ HB.out)); (case aF => exact (fun _ _ => trivial)); (case aO => exact (kr_ HO_3.out)); (case aS => exact (below_size (be_ HB.out))); (case aL => have := LMc14.out; omega); intro v522 w16 ho hb hg hat; rw [← Ny521.out] at ho; have n0_ := q_ (hb); have n1_ := q_ (ho); clear HB; clear HO_3; have HB := n0_; have HO523 := n1_; clear n0_ n1_; clear ho hb hg hat))
      go_roundg k1
      case measure => have := HK1.out; omega
      case rel => exact ⟨(y521), H', ⟨by have := HK1.out; omega⟩, ⟨by (with_reducible repeat (first | apply Kd.R_alloc | apply Kd.R_drewN | apply Kd.R_drew)); exact HO523.out⟩, ⟨be_ HB.out⟩⟩

end Go.Proofs.Ythkaifddpjjmaaa.P
