-- Written by wip/xp/xp.py over the kit's print; Lean checks it.
import Derived.Test.YthkaifddpjjmaaaStr
import Derived.Test.YthkaifddpjjmaaaPx0
import Derived.Test.YthkaifddpjjmaaaPx2
import Derived.Test.YthkaifddpjjmaaaPx5
import Derived.Test.YthkaifddpjjmaaaPx12
namespace Go.Proofs.Ythkaifddpjjmaaa.P
open Go.RowKit Go.Proofs.YthkaifddpjjmaaaW.PrintWords Go.Proofs.YthkaifddpjjmaaaW.PrintLast Go.Proofs.YthkaifddpjjmaaaW.PrintMore
attribute [local go_sem] max2_int min2_int max_two min_two max_three min_three max_four min_four   -- for this text's walks alone
set_option linter.unusedVariables false
set_option linter.unusedSimpArgs false

/-! ###  spec_PairsOk: function 12 -/
def spec_PairsOk.l0 : Nat → List (S26) → Int → Option (Bool)
  | 0, _, _ => none
  | k + 1, x0, x3 => if x3 < (x0.length : Int) then (if 0 ≤ x3 then ((spec_PairOk.f k ((rd_T26 x0 x3).f0) ((rd_T26 x0 x3).f1)).bind fun t686 => (if t686 = true then (if x3 > 0 then (if 0 ≤ (wrap64 (x3 - 1)) then (if (wrap64 (x3 - 1)) < (x0.length : Int) then (if ((Op.bytesLess (((rd_T26 x0 (wrap64 (x3 - 1))).f0).toList) (((rd_T26 x0 x3).f0).toList)) = true) then (spec_PairsOk.l0 k x0 (wrap64 (x3 + 1))) else (some false)) else (none)) else (none)) else (spec_PairsOk.l0 k x0 (wrap64 (x3 + 1)))) else (some false))) else (none)) else (some (decide ((x0.length : Int) ≤ 60)))
def spec_PairsOk.f (k : Nat) (l0 : List (S26)) : Option (Bool) := spec_PairsOk.l0 k l0 0
def spec_PairsOk.T4 : Bool × List (List Nat × List Nat) := (true, [([], []), ([], []), ([0, 1], [0, 1]), ([2], [2]), ([3], [3]), ([4], [4]), ([5, 4], [5]), ([6], [6]), ([7, 6], [6, 7]), ([8, 6, 6], [6, 8]), ([9], [9]), ([9], [9]), ([11, 9], [9, 11]), ([10, 12, 9], [9, 10, 12]), ([13, 9], [9, 13]), ([14, 9], [9, 14]), ([9], [9]), ([9], [9]), ([16, 17, 9], [9, 16, 17]), ([18, 9], [9, 18]), ([19, 9], [9, 19]), ([15, 20, 9], [9, 15, 20]), ([9, 21, 6], [6, 9, 21]), ([6, 22], [6, 22])])
def spec_PairsOk.B4 : List Nat := [0, 0, 3, 7, 15, 31, 63, 127, 255, 511, 1023, 1023, 3071, 8191, 16383, 32767, 1023, 1023, 197631, 459775, 984063, 2097151, 4194303, 8388607]
theorem spec_PairsOk.tab4 : rtab .any (opsOf Try.f12 4) = spec_PairsOk.T4 := by kernel_rfl
theorem spec_PairsOk.bits4 : waitsOk spec_PairsOk.T4.2 spec_PairsOk.B4 = true := by kernel_rfl
set_option maxHeartbeats 8000000 in
set_option maxRecDepth 100000 in
theorem spec_PairsOk.calls (k : Nat) (A0 : Option Addr) (c0 : Nat) (l0 : List (S26)) (r : Bool) (w : World) (hr0 : Kd.C k26 w A0 l0.length l0) (hc0 : l0.length ≤ c0) (h : spec_PairsOk.f k l0 = some r) :
  Calls Try.prog 12 #[.slice A0 l0.length c0] w fun e w' => e = .returned (.bool r) ∧ Below w.heap.size w w' := by
  have hu26 := Try.underlying26
  have HR0 := Aside0.mk hr0
  have HC0 := Aside0.mk hc0
  clear hr0 hc0
  have HB := q_ (Below.refl w.heap.size w)
  have H := h
  clear h
  unfold spec_PairsOk.f at H
  have H' := Aside0.mk H
  clear H
  go_enter Try.func12, Try.ntmps12
  go_wp2
  go_loopg [3] k (fun kq v3 w' => ∃ (x3_1 : Int), v3 = .int .i64 x3_1 ∧ Aside0 (spec_PairsOk.l0 kq l0 x3_1 = some r) ∧ Aside0 (kq ≤ k) ∧ Aside0 (Below w.heap.size w w'))
  case atStart => exact ⟨(0), rs_, H', ⟨Nat.le_refl _⟩, ⟨be_ HB.out⟩⟩
  case round =>
   clear H'
   try clear c1
   obtain ⟨x3_1, rfl, HA, HK1, HB⟩ := hrel
   cases gk with
   | zero => exact absurd HA.out (by simp [spec_PairsOk.l0])
   | succ k1 =>
    have H := HA.out
    clear HA
    simp only [spec_PairsOk.l0] at H
    by_cases c2 : x3_1 < (l0.length : Int)
    · rw [if_pos c2] at H
      have c2b0 := decide_eq_true c2
      clear c2
      obtain ⟨c3, H⟩ := ip_ H
      have c3b0 : decide (0 ≤ x3_1) = true := decide_eq_true c3
      clear c3
      obtain ⟨t686, A4, H⟩ := bo_ H
      by_cases c5 : t686 = true
      rotate_left
      · replace c5 := Bool.eq_false_iff.mpr c5
        subst c5
        rw [if_neg (show ¬ (false = true) by decide)] at H
        obtain rfl := Option.some.inj H
        try go_wp2
        replace HB := q_ (below_drew1 HB.out)
        have p685 : 0 ≤ (x3_1 : Int) := od_
        have q685 : x3_1 < (l0.length : Int) := od_
        obtain ⟨ad685, e685, hx685_0, hx685_1⟩ := at_T26 HR0.out x3_1 p685 q685
        have hw685_1 := hx685_1
        have hw685_0 := hx685_0
        cases e685
        replace hx685_0 := hc_ HB.out hx685_0
        replace hx685_1 := hc_ HB.out hx685_1
        replace p685 := eq_true p685
        replace q685 := eq_true q685
        refine start_ (n := 24) (S := fun w' => w'.cell? (ad685.add ((x3_1).toNat * 2)) = some (.string ((rd_T26 l0 x3_1).f0)) ∧ w'.cell? ⟨(ad685.add ((x3_1).toNat * 2)).block, (ad685.add ((x3_1).toNat * 2)).off + 1, none⟩ = some (.string ((rd_T26 l0 x3_1).f1))) (ds := []) (bq_ 0 24) (by kernel_rfl) rfl rfl ⟨(hc_ HB.out hw685_0), (hc_ HB.out hw685_1)⟩ (fun hHeld => ?_); refine with_tabW spec_PairsOk.tab4 spec_PairsOk.bits4 (fun HT_ HW_ => ?_)
        generalize wr.drew = w17 at HB hx685_0 hx685_1 hHeld ⊢
        refine p_ 0 10 HT_ ?_; refine p_ 1 11 HT_ ?_; refine p_ 2 12 HT_ ?_; refine k_ 3 13 HT_ HW_ hHeld ?_
        refine oc_ 4 14 (bq_ 5 19) HT_ Try.func54 #[.agg #[.string ((rd_T26 l0 x3_1).f0), .string ((rd_T26 l0 x3_1).f1)]] ?_
        with_reducible refine (spec_PairOk.calls k1 ((rd_T26 l0 x3_1).f0) ((rd_T26 l0 x3_1).f1) false _ A4.out).mono ?_
        rintro e w18 ⟨rfl, hb⟩
        refine ⟨_, rfl, ?_⟩
        replace HB := q_ (below_step (be_ HB.out) hb)
        (try clear hb)
        (try clear hb2)
        (try clear hk)
        (try clear hi)
        refine ⟨⟨(hc_ HB.out hw685_0), (hc_ HB.out hw685_1)⟩, fun hHeld => nm_ ?_⟩
        refine p_ 5 15 HT_ ?_; refine p_ 6 16 HT_ ?_; refine u_ 7 17 HT_ ?_; refine u_ 8 18 HT_ ?_; refine u_ 9 19 HT_ ?_; refine u_ 10 20 HT_ ?_; refine u_ 11 21 HT_ ?_; refine u_ 12 22 HT_ ?_; refine u_ 13 23 HT_ ?_; refine u_ 14 24 HT_ ?_; refine u_ 15 25 HT_ ?_; refine u_ 16 26 HT_ ?_; refine u_ 17 27 HT_ ?_; refine u_ 18 28 HT_ ?_; refine u_ 19 29 HT_ ?_; refine u_ 20 30 HT_ ?_; refine u_ 21 31 HT_ ?_; refine u_ 22 32 HT_ ?_; refine p_ 23 33 HT_ ?_
        refine done_ (done_of HT_.out (by kernel_rfl)) ?_
        try go_wp2
        go_ret
        exact ⟨rf_, be_ HB.out⟩
      subst c5
      rw [if_pos rfl] at H
      by_cases c6 : x3_1 > 0
      rotate_left
      · rw [if_neg c6] at H
        have c6b0 : decide (0 < x3_1) = false := decide_eq_false c6
        clear c6
        have H' := Aside0.mk H
        clear H
        try go_wp2
        replace HB := q_ (below_drew1 HB.out)
        have p685 : 0 ≤ (x3_1 : Int) := od_
        have q685 : x3_1 < (l0.length : Int) := od_
        obtain ⟨ad685, e685, hx685_0, hx685_1⟩ := at_T26 HR0.out x3_1 p685 q685
        have hw685_1 := hx685_1
        have hw685_0 := hx685_0
        cases e685
        replace hx685_0 := hc_ HB.out hx685_0
        replace hx685_1 := hc_ HB.out hx685_1
        replace p685 := eq_true p685
        replace q685 := eq_true q685
        refine start_ (n := 24) (S := fun w' => w'.cell? (ad685.add ((x3_1).toNat * 2)) = some (.string ((rd_T26 l0 x3_1).f0)) ∧ w'.cell? ⟨(ad685.add ((x3_1).toNat * 2)).block, (ad685.add ((x3_1).toNat * 2)).off + 1, none⟩ = some (.string ((rd_T26 l0 x3_1).f1))) (ds := []) (bq_ 0 24) (by kernel_rfl) rfl rfl ⟨(hc_ HB.out hw685_0), (hc_ HB.out hw685_1)⟩ (fun hHeld => ?_); refine with_tabW spec_PairsOk.tab4 spec_PairsOk.bits4 (fun HT_ HW_ => ?_)
        generalize wr.drew = w15 at HB hx685_0 hx685_1 hHeld ⊢
        refine p_ 0 10 HT_ ?_; refine p_ 1 11 HT_ ?_; refine p_ 2 12 HT_ ?_; refine k_ 3 13 HT_ HW_ hHeld ?_
        refine oc_ 4 14 (bq_ 5 19) HT_ Try.func54 #[.agg #[.string ((rd_T26 l0 x3_1).f0), .string ((rd_T26 l0 x3_1).f1)]] ?_
        with_reducible refine (spec_PairOk.calls k1 ((rd_T26 l0 x3_1).f0) ((rd_T26 l0 x3_1).f1) true _ A4.out).mono ?_
        rintro e w16 ⟨rfl, hb⟩
        refine ⟨_, rfl, ?_⟩
        replace HB := q_ (below_step (be_ HB.out) hb)
        (try clear hb)
        (try clear hb2)
        (try clear hk)
        (try clear hi)
        refine ⟨⟨(hc_ HB.out hw685_0), (hc_ HB.out hw685_1)⟩, fun hHeld => nm_ ?_⟩
        refine p_ 5 15 HT_ ?_; refine p_ 6 16 HT_ ?_; refine p_ 7 17 HT_ ?_; refine p_ 8 18 HT_ ?_; refine p_ 9 19 HT_ ?_; refine u_ 10 20 HT_ ?_; refine u_ 11 21 HT_ ?_; refine u_ 12 22 HT_ ?_; refine u_ 13 23 HT_ ?_; refine u_ 14 24 HT_ ?_; refine u_ 15 25 HT_ ?_; refine u_ 16 26 HT_ ?_; refine u_ 17 27 HT_ ?_; refine u_ 18 28 HT_ ?_; refine u_ 19 29 HT_ ?_; refine u_ 20 30 HT_ ?_; refine u_ 21 31 HT_ ?_; refine p_ 22 32 HT_ ?_; refine p_ 23 33 HT_ ?_
        refine done_ (done_of HT_.out (by kernel_rfl)) ?_
        try go_wp2
        go_roundg k1
        case measure => have := HK1.out; omega
        case rel => exact ⟨(wrap64 (x3_1 + 1)), rs_, H', ⟨by have := HK1.out; omega⟩, ⟨be_ HB.out⟩⟩
      rw [if_pos c6] at H
      have c6b0 : decide (0 < x3_1) = true := decide_eq_true c6
      clear c6
      obtain ⟨ji7, hji7⟩ : ∃ j_ : Int, (wrap64 (x3_1 - 1)) = j_ := ⟨_, rfl⟩
      replace H : (if 0 ≤ (ji7) then (if (ji7) < (l0.length : Int) then (if ((Op.bytesLess (((rd_T26 l0 (ji7)).f0).toList) (((rd_T26 l0 x3_1).f0).toList)) = true) then (spec_PairsOk.l0 k1 l0 (wrap64 (x3_1 + 1))) else (some false)) else (none)) else (none)) = some r := by first | (rw [hji7] at H; exact H) | (simp only [hji7] at H ⊢; exact H)
      (try rw [hji7] at A4)
      have hji7w : (IntKind.i64.wrap (x3_1 - 1)) = ji7 := (i64_w _).trans hji7
      obtain ⟨c8, H⟩ := ip_ H
      have c8b0 : decide (0 ≤ (ji7)) = true := decide_eq_true c8
      clear c8
      obtain ⟨c9, H⟩ := ip_ H
      have c9b0 : decide ((ji7) < (l0.length : Int)) = true := decide_eq_true c9
      clear c9
      by_cases c10 : ((Op.bytesLess (((rd_T26 l0 (ji7)).f0).toList) (((rd_T26 l0 x3_1).f0).toList)) = true)
      · rw [if_pos c10] at H
        have c10b0 : (Op.bytesLess (((rd_T26 l0 (ji7)).f0).toList) (((rd_T26 l0 x3_1).f0).toList)) = true := c10
        clear c10
        have H' := Aside0.mk H
        clear H
        try go_wp2
        replace HB := q_ (below_drew1 HB.out)
        have p685 : 0 ≤ (x3_1 : Int) := od_
        have q685 : x3_1 < (l0.length : Int) := od_
        obtain ⟨ad685, e685, hx685_0, hx685_1⟩ := at_T26 HR0.out x3_1 p685 q685
        have hw685_1 := hx685_1
        have hw685_0 := hx685_0
        cases e685
        replace hx685_0 := hc_ HB.out hx685_0
        replace hx685_1 := hc_ HB.out hx685_1
        replace p685 := eq_true p685
        replace q685 := eq_true q685
        have p687 : 0 ≤ ((ji7) : Int) := od_
        have q687 : (ji7) < (l0.length : Int) := od_
        obtain ⟨ad687, e687, hx687_0, hx687_1⟩ := at_T26 HR0.out (ji7) p687 q687
        have hw687_1 := hx687_1
        have hw687_0 := hx687_0
        obtain rfl : ad685 = ad687 := (by injection e687)
        replace hx687_0 := hc_ HB.out hx687_0
        replace hx687_1 := hc_ HB.out hx687_1
        replace p687 := eq_true p687
        replace q687 := eq_true q687
        have p688 : 0 ≤ (x3_1 : Int) := od_
        have q688 : x3_1 < (l0.length : Int) := od_
        obtain ⟨ad688, e688, hx688_0, hx688_1⟩ := at_T26 HR0.out x3_1 p688 q688
        have hw688_1 := hx688_1
        have hw688_0 := hx688_0
        obtain rfl : ad685 = ad688 := (by injection e688)
        replace hx688_0 := hc_ HB.out hx688_0
        replace hx688_1 := hc_ HB.out hx688_1
        replace p688 := eq_true p688
        replace q688 := eq_true q688
        refine start_ (n := 24) (S := fun w' => w'.cell? (ad685.add ((x3_1).toNat * 2)) = some (.string ((rd_T26 l0 x3_1).f0)) ∧ w'.cell? ⟨(ad685.add ((x3_1).toNat * 2)).block, (ad685.add ((x3_1).toNat * 2)).off + 1, none⟩ = some (.string ((rd_T26 l0 x3_1).f1)) ∧ w'.cell? (ad685.add (((ji7)).toNat * 2)) = some (.string ((rd_T26 l0 (ji7)).f0)) ∧ w'.cell? ⟨(ad685.add (((ji7)).toNat * 2)).block, (ad685.add (((ji7)).toNat * 2)).off + 1, none⟩ = some (.string ((rd_T26 l0 (ji7)).f1)) ∧ w'.cell? (ad685.add ((x3_1).toNat * 2)) = some (.string ((rd_T26 l0 x3_1).f0)) ∧ w'.cell? ⟨(ad685.add ((x3_1).toNat * 2)).block, (ad685.add ((x3_1).toNat * 2)).off + 1, none⟩ = some (.string ((rd_T26 l0 x3_1).f1))) (ds := []) (bq_ 0 24) (by kernel_rfl) rfl rfl ⟨(hc_ HB.out hw685_0), (hc_ HB.out hw685_1), (hc_ HB.out hw687_0), (hc_ HB.out hw687_1), (hc_ HB.out hw688_0), (hc_ HB.out hw688_1)⟩ (fun hHeld => ?_); refine with_tabW spec_PairsOk.tab4 spec_PairsOk.bits4 (fun HT_ HW_ => ?_)
        generalize wr.drew = w11 at HB hx685_0 hx685_1 hx687_0 hx687_1 hx688_0 hx688_1 hHeld ⊢
        refine p_ 0 10 HT_ ?_; refine p_ 1 11 HT_ ?_; refine p_ 2 12 HT_ ?_; refine k_ 3 13 HT_ HW_ hHeld ?_
        refine oc_ 4 14 (bq_ 5 19) HT_ Try.func54 #[.agg #[.string ((rd_T26 l0 x3_1).f0), .string ((rd_T26 l0 x3_1).f1)]] ?_
        with_reducible refine (spec_PairOk.calls k1 ((rd_T26 l0 x3_1).f0) ((rd_T26 l0 x3_1).f1) true _ A4.out).mono ?_
        rintro e w12 ⟨rfl, hb⟩
        refine ⟨_, rfl, ?_⟩
        replace HB := q_ (below_step (be_ HB.out) hb)
        (try clear hb)
        (try clear hb2)
        (try clear hk)
        (try clear hi)
        refine ⟨⟨(hc_ HB.out hw685_0), (hc_ HB.out hw685_1), (hc_ HB.out hw687_0), (hc_ HB.out hw687_1), (hc_ HB.out hw688_0), (hc_ HB.out hw688_1)⟩, fun hHeld => nm_ ?_⟩
        refine p_ 5 15 HT_ ?_; refine p_ 6 16 HT_ ?_; refine p_ 7 17 HT_ ?_; refine p_ 8 18 HT_ ?_; refine p_ 9 19 HT_ ?_; refine p_ 10 20 HT_ ?_; refine p_ 11 21 HT_ ?_; refine p_ 12 22 HT_ ?_; refine p_ 13 23 HT_ ?_; refine p_ 14 24 HT_ ?_; refine p_ 16 26 HT_ ?_; refine p_ 17 27 HT_ ?_; refine p_ 18 28 HT_ ?_; refine p_ 19 29 HT_ ?_; refine k_ 15 25 HT_ HW_ hHeld ?_; refine k_ 20 30 HT_ HW_ hHeld ?_; refine p_ 21 31 HT_ ?_; refine p_ 22 32 HT_ ?_; refine p_ 23 33 HT_ ?_
        refine done_ (done_of HT_.out (by kernel_rfl)) ?_
        try go_wp2
        go_roundg k1
        case measure => have := HK1.out; omega
        case rel => exact ⟨(wrap64 (x3_1 + 1)), rs_, H', ⟨by have := HK1.out; omega⟩, ⟨be_ HB.out⟩⟩
      rw [if_neg c10] at H
      have c10b0 : (Op.bytesLess (((rd_T26 l0 (ji7)).f0).toList) (((rd_T26 l0 x3_1).f0).toList)) = false := by simpa using c10
      clear c10
      obtain rfl := Option.some.inj H
      try go_wp2
      replace HB := q_ (below_drew1 HB.out)
      have p685 : 0 ≤ (x3_1 : Int) := od_
      have q685 : x3_1 < (l0.length : Int) := od_
      obtain ⟨ad685, e685, hx685_0, hx685_1⟩ := at_T26 HR0.out x3_1 p685 q685
      have hw685_1 := hx685_1
      have hw685_0 := hx685_0
      cases e685
      replace hx685_0 := hc_ HB.out hx685_0
      replace hx685_1 := hc_ HB.out hx685_1
      replace p685 := eq_true p685
      replace q685 := eq_true q685
      have p687 : 0 ≤ ((ji7) : Int) := od_
      have q687 : (ji7) < (l0.length : Int) := od_
      obtain ⟨ad687, e687, hx687_0, hx687_1⟩ := at_T26 HR0.out (ji7) p687 q687
      have hw687_1 := hx687_1
      have hw687_0 := hx687_0
      obtain rfl : ad685 = ad687 := (by injection e687)
      replace hx687_0 := hc_ HB.out hx687_0
      replace hx687_1 := hc_ HB.out hx687_1
      replace p687 := eq_true p687
      replace q687 := eq_true q687
      have p688 : 0 ≤ (x3_1 : Int) := od_
      have q688 : x3_1 < (l0.length : Int) := od_
      obtain ⟨ad688, e688, hx688_0, hx688_1⟩ := at_T26 HR0.out x3_1 p688 q688
      have hw688_1 := hx688_1
      have hw688_0 := hx688_0
      obtain rfl : ad685 = ad688 := (by injection e688)
      replace hx688_0 := hc_ HB.out hx688_0
      replace hx688_1 := hc_ HB.out hx688_1
      replace p688 := eq_true p688
      replace q688 := eq_true q688
      refine start_ (n := 24) (S := fun w' => w'.cell? (ad685.add ((x3_1).toNat * 2)) = some (.string ((rd_T26 l0 x3_1).f0)) ∧ w'.cell? ⟨(ad685.add ((x3_1).toNat * 2)).block, (ad685.add ((x3_1).toNat * 2)).off + 1, none⟩ = some (.string ((rd_T26 l0 x3_1).f1)) ∧ w'.cell? (ad685.add (((ji7)).toNat * 2)) = some (.string ((rd_T26 l0 (ji7)).f0)) ∧ w'.cell? ⟨(ad685.add (((ji7)).toNat * 2)).block, (ad685.add (((ji7)).toNat * 2)).off + 1, none⟩ = some (.string ((rd_T26 l0 (ji7)).f1)) ∧ w'.cell? (ad685.add ((x3_1).toNat * 2)) = some (.string ((rd_T26 l0 x3_1).f0)) ∧ w'.cell? ⟨(ad685.add ((x3_1).toNat * 2)).block, (ad685.add ((x3_1).toNat * 2)).off + 1, none⟩ = some (.string ((rd_T26 l0 x3_1).f1))) (ds := []) (bq_ 0 24) (by kernel_rfl) rfl rfl ⟨(hc_ HB.out hw685_0), (hc_ HB.out hw685_1), (hc_ HB.out hw687_0), (hc_ HB.out hw687_1), (hc_ HB.out hw688_0), (hc_ HB.out hw688_1)⟩ (fun hHeld => ?_); refine with_tabW spec_PairsOk.tab4 spec_PairsOk.bits4 (fun HT_ HW_ => ?_)
      generalize wr.drew = w13 at HB hx685_0 hx685_1 hx687_0 hx687_1 hx688_0 hx688_1 hHeld ⊢
      refine p_ 0 10 HT_ ?_; refine p_ 1 11 HT_ ?_; refine p_ 2 12 HT_ ?_; refine k_ 3 13 HT_ HW_ hHeld ?_
      refine oc_ 4 14 (bq_ 5 19) HT_ Try.func54 #[.agg #[.string ((rd_T26 l0 x3_1).f0), .string ((rd_T26 l0 x3_1).f1)]] ?_
      with_reducible refine (spec_PairOk.calls k1 ((rd_T26 l0 x3_1).f0) ((rd_T26 l0 x3_1).f1) true _ A4.out).mono ?_
      rintro e w14 ⟨rfl, hb⟩
      refine ⟨_, rfl, ?_⟩
      replace HB := q_ (below_step (be_ HB.out) hb)
      (try clear hb)
      (try clear hb2)
      (try clear hk)
      (try clear hi)
      refine ⟨⟨(hc_ HB.out hw685_0), (hc_ HB.out hw685_1), (hc_ HB.out hw687_0), (hc_ HB.out hw687_1), (hc_ HB.out hw688_0), (hc_ HB.out hw688_1)⟩, fun hHeld => nm_ ?_⟩
      refine p_ 5 15 HT_ ?_; refine p_ 6 16 HT_ ?_; refine p_ 7 17 HT_ ?_; refine p_ 8 18 HT_ ?_; refine p_ 9 19 HT_ ?_; refine p_ 10 20 HT_ ?_; refine p_ 11 21 HT_ ?_; refine p_ 12 22 HT_ ?_; refine p_ 13 23 HT_ ?_; refine p_ 14 24 HT_ ?_; refine p_ 16 26 HT_ ?_; refine p_ 17 27 HT_ ?_; refine p_ 18 28 HT_ ?_; refine p_ 19 29 HT_ ?_; refine k_ 15 25 HT_ HW_ hHeld ?_; refine k_ 20 30 HT_ HW_ hHeld ?_; refine p_ 21 31 HT_ ?_; refine p_ 22 32 HT_ ?_; refine p_ 23 33 HT_ ?_
      refine done_ (done_of HT_.out (by kernel_rfl)) ?_
      try go_wp2
      go_ret
      exact ⟨by first | rfl | (simp [errW_none, errW_some] <;> rfl) | (simp only [← hji7]; first | rfl | (simp [errW_none, errW_some] <;> rfl)) | (simp [*, errW_none, errW_some] <;> rfl), be_ HB.out⟩
    · rw [if_neg c2] at H
      have c2b0 := decide_eq_false c2
      clear c2
      obtain rfl := Option.some.inj H
      go_wp2
      go_ret
      exact ⟨rf_, be_ HB.out⟩

/-! ###  spec_l4Hashed: function 90 -/
mutual
def spec_l4Hashed.j0 : Nat → List Int → Int → List ByteArray → ByteArray → Int → Int → Int → Option (List ByteArray × Bool)
  | 0, _, _, _, _, _, _, _ => none
  | k + 1, x0, x1, x3, x10, x11, x12, x13 => if 0 ≤ (wrap64 ((x3.length : Int) - 1)) then (if (wrap64 ((x3.length : Int) - 1)) ≤ (x3.length : Int) then ((spec_l4Hashed.f k x0 x13 x12 (x3.take ((wrap64 ((x3.length : Int) - 1)) : Int).toNat)).bind fun bt698 => (if bt698.2 = true then (if 0 ≤ (wrap64 ((bt698.1.length : Int) - 1)) then (if (wrap64 ((bt698.1.length : Int) - 1)) < (bt698.1.length : Int) then (if (rdOf ByteArray.empty bt698.1 (wrap64 ((bt698.1.length : Int) - 1))).size ≤ 9223372036854775807 then ((spec_Digest.f k (bytesOf (rdOf ByteArray.empty bt698.1 (wrap64 ((bt698.1.length : Int) - 1))))).bind fun t710 => (if x1 < x11 then ((spec_l4Node.f t710 x10).bind fun t711 => (if bt698.1.length < 8796093022208 then (some ((bt698.1 ++ [strOfNums t711]), true)) else (none))) else ((spec_l4Node.f x10 t710).bind fun t717 => (if bt698.1.length < 8796093022208 then (some ((bt698.1 ++ [strOfNums t717]), true)) else (none))))) else (none)) else (none)) else (none)) else (some ((([] : List ByteArray)), false)))) else (none)) else (none)
def spec_l4Hashed.f : Nat → List Int → Int → Int → List ByteArray → Option (List ByteArray × Bool)
  | 0, _, _, _, _ => none
  | k + 1, l0, a1, a2, l3 => if a2 < 2 then (some ((([strOfNums l0] : List ByteArray)), ((l3.length : Int) == 0))) else (if (l3.length : Int) = 0 then (some ((([] : List ByteArray)), false)) else (if 0 ≤ (wrap64 ((l3.length : Int) - 1)) then (if (wrap64 ((l3.length : Int) - 1)) < (l3.length : Int) then ((spec_l4Half.f k a2).bind fun t696 => (if a1 ≥ t696 then (spec_l4Hashed.j0 k l0 a1 l3 (rdOf ByteArray.empty l3 (wrap64 ((l3.length : Int) - 1))) t696 (wrap64 (a2 - t696)) (wrap64 (a1 - t696))) else (spec_l4Hashed.j0 k l0 a1 l3 (rdOf ByteArray.empty l3 (wrap64 ((l3.length : Int) - 1))) t696 t696 a1))) else (none)) else (none)))
end
set_option maxHeartbeats 8000000 in
set_option maxRecDepth 100000 in
theorem spec_l4Hashed.calls (k : Nat) : ∀ (A0 : Option Addr) (c0 : Nat) (l0 : List Int) (a1 : Int) (a2 : Int) (A3 : Option Addr) (c3 : Nat) (l3 : List ByteArray) (r1 : List ByteArray) (r2 : Bool) (w : World) (hr0 : Kd.C (Kd.int .u8) w A0 l0.length l0) (hc0 : l0.length ≤ c0) (hr3 : Kd.C Kd.string w A3 l3.length l3) (hc3 : l3.length ≤ c3) (h : spec_l4Hashed.f k l0 a1 a2 l3 = some (r1, r2)),
  Calls Try.prog 90 #[.slice A0 l0.length c0, .int .i64 a1, .int .i64 a2, .slice A3 l3.length c3] w fun e w' => ∃ v0_ : Value, e = .returned (.tuple #[v0_, .bool r2]) ∧ Kd.R Kd.string 9 w' w.heap.size (fun _ => True) v0_ r1 ∧ Below w.heap.size w w' := by
  induction k using Nat.strongRecOn with
  | _ k ih =>
  intro A0 c0 l0 a1 a2 A3 c3 l3 r1 r2 w hr0 hc0 hr3 hc3 h
  cases k with
  | zero => exact absurd h (by simp [spec_l4Hashed.f])
  | succ k =>
  simp only [spec_l4Hashed.f] at h
  have HR0 := Aside0.mk hr0
  have HC0 := Aside0.mk hc0
  clear hr0 hc0
  have HR3 := Aside0.mk hr3
  have HC3 := Aside0.mk hc3
  clear hr3 hc3
  have HB := q_ (Below.refl w.heap.size w)
  have H : (if a2 < 2 then (some ((([strOfNums l0] : List ByteArray)), ((l3.length : Int) == 0))) else (if (l3.length : Int) = 0 then (some ((([] : List ByteArray)), false)) else (if 0 ≤ (wrap64 ((l3.length : Int) - 1)) then (if (wrap64 ((l3.length : Int) - 1)) < (l3.length : Int) then ((spec_l4Half.f k a2).bind fun t696 => (if a1 ≥ t696 then (spec_l4Hashed.j0 k l0 a1 l3 (rdOf ByteArray.empty l3 (wrap64 ((l3.length : Int) - 1))) t696 (wrap64 (a2 - t696)) (wrap64 (a1 - t696))) else (spec_l4Hashed.j0 k l0 a1 l3 (rdOf ByteArray.empty l3 (wrap64 ((l3.length : Int) - 1))) t696 t696 a1))) else (none)) else (none)))) = some (r1, r2) := h
  clear h
  by_cases c5 : a2 < 2
  · rw [if_pos c5] at H
    have c5b0 := decide_eq_true c5
    clear c5
    obtain ⟨y689, hy689⟩ : ∃ y_ : List ByteArray, y_ = (([strOfNums l0] : List ByteArray)) := ⟨_, rfl⟩
    replace H : (some (y689, ((l3.length : Int) == 0))) = some (r1, r2) := ry_ hy689 H
    have Ny689 := Aside0.mk hy689
    clear hy689
    simp only [Option.some.injEq, Prod.mk.injEq] at H
    obtain ⟨rfl, rfl⟩ := H
    have hcv6 := Kd.C_string (P := Try.prog) (A := A0) (c := c0) Try.underlying22 Try.underlying5 Try.underlying9 HR0.out
    have hcv7d := fun n_ => Kd.C_string (P := Try.prog) (A := A0) (c := c0) Try.underlying22 Try.underlying5 Try.underlying9 (Kd.C_drewN HR0.out n_)
    go_enter Try.func90, Try.ntmps90
    go_wp2_with (first | ((with_reducible refine gate_dst (N := 21) rfl ?_); refine Kd.R_lit Kd.string _ 9 ?hg (N := 21) ?hd (xs := ([strOfNums l0] : List ByteArray)) (inner := [.string (strOfNums l0)]) (ok := fun _ => True) (okp := fun _ => True) ?hr ?hp (fun _ hk => hk) trivial (Below.refl _ _) (Nat.le_refl _) (by simp) ?_; (case hd => rfl); (case hg => rfl); (case hr => first | (go_simp; done) | (go_simp; rfl)); (case hp => exact (Reps.one (show Kd.M Kd.string _ _ _ (strOfNums l0) [.string (strOfNums l0)] from rfl) (Reps.none _ _))); intro v690 w8 ho9 hb hg_ hnew_; clear hg_ hnew_; (first | rw [← Ny689.out] at ho9 | (simp only [Int.reduceToNat] at ho9; rw [← Ny689.out] at ho9)); have HO691 := q_ (Kd.R_lower ho9 (below_size (be_ HB.out))); replace HB := q_ (below_step (be_ HB.out) hb); clear hb ho9))
    go_ret2
    exact ⟨_, rf_, by (with_reducible repeat (first | apply Kd.R_alloc | apply Kd.R_drewN | apply Kd.R_drew)); exact HO691.out, be_ HB.out⟩
  · rw [if_neg c5] at H
    have c5b0 := decide_eq_false c5
    clear c5
    by_cases c10 : (l3.length : Int) = 0
    · rw [if_pos c10] at H
      have c10b0 := beq_iff_eq.mpr c10
      have c10b1 := bne_eq_false_iff_eq.mpr c10
      clear c10
      obtain ⟨y692, hy692⟩ : ∃ y_ : List ByteArray, y_ = (([] : List ByteArray)) := ⟨_, rfl⟩
      replace H : (some (y692, false)) = some (r1, r2) := ry_ hy692 H
      have Ny692 := Aside0.mk hy692
      clear hy692
      simp only [Option.some.injEq, Prod.mk.injEq] at H
      obtain ⟨rfl, rfl⟩ := H
      go_enter Try.func90, Try.ntmps90
      go_wp2_with (first | ((with_reducible refine gate_dst (N := 28) rfl ?_); refine Kd.R_lit Kd.string _ 9 ?hg (N := 28) ?hd (xs := ([] : List ByteArray)) (inner := []) (ok := fun _ => True) (okp := fun _ => True) ?hr ?hp (fun _ hk => hk) trivial (Below.refl _ _) (Nat.le_refl _) (by simp) ?_; (case hd => rfl); (case hg => rfl); (case hr => first | (go_simp; done) | (go_simp; rfl)); (case hp => exact (Reps.none _ _)); intro v693 w11 ho12 hb hg_ hnew_; clear hg_ hnew_; (first | rw [← Ny692.out] at ho12 | (simp only [Int.reduceToNat] at ho12; rw [← Ny692.out] at ho12)); have HO694 := q_ (Kd.R_lower ho12 (below_size (be_ HB.out))); replace HB := q_ (below_step (be_ HB.out) hb); clear hb ho12))
      go_ret2
      exact ⟨_, rf_, by (with_reducible repeat (first | apply Kd.R_alloc | apply Kd.R_drewN | apply Kd.R_drew)); exact HO694.out, be_ HB.out⟩
    · rw [if_neg c10] at H
      have c10b0 := beq_eq_false_iff_ne.mpr c10
      have c10b1 := bne_iff_ne.mpr c10
      have c10b2 : ¬ (l3 = []) := fun h_ => c10 (by rw [h_]; rfl)
      obtain ⟨ji13, hji13⟩ : ∃ j_ : Int, (wrap64 ((l3.length : Int) - 1)) = j_ := ⟨_, rfl⟩
      replace H : (if 0 ≤ (ji13) then (if (ji13) < (l3.length : Int) then ((spec_l4Half.f k a2).bind fun t696 => (if a1 ≥ t696 then (spec_l4Hashed.j0 k l0 a1 l3 (rdOf ByteArray.empty l3 (ji13)) t696 (wrap64 (a2 - t696)) (wrap64 (a1 - t696))) else (spec_l4Hashed.j0 k l0 a1 l3 (rdOf ByteArray.empty l3 (ji13)) t696 t696 a1))) else (none)) else (none)) = some (r1, r2) := by first | (rw [hji13] at H; exact H) | (simp only [hji13] at H ⊢; exact H)
      have hji13w : (IntKind.i64.wrap ((l3.length : Int) - 1)) = ji13 := (i64_w _).trans hji13
      obtain ⟨c14, H⟩ := ip_ H
      have c14b0 : decide (0 ≤ (ji13)) = true := decide_eq_true c14
      clear c14
      obtain ⟨c15, H⟩ := ip_ H
      have c15b0 : decide ((ji13) < (l3.length : Int)) = true := decide_eq_true c15
      clear c15
      obtain ⟨t696, A16, H⟩ := bo_ H
      have HC17 := Aside0.mk H
      clear H
      have p695 : 0 ≤ ((ji13) : Int) := od_
      have q695 : (ji13) < (l3.length : Int) := od_
      obtain ⟨ad695, e695, hx695_0⟩ := Kd.at_string HR3.out (ji13) p695 q695
      cases e695
      replace p695 := eq_true p695
      replace q695 := eq_true q695
      go_enter Try.func90, Try.ntmps90
      go_upto_if 41 with (first | ((with_reducible refine gate_callee (f := 78) rfl ?_); refine gl_ (some 36) Try.func78 #[.int .i64 a2] rfl al_ ?_; (with_reducible refine (spec_l4Half.calls k a2 t696 _ A16.out).mono ?_); rintro e w' ⟨rfl, ⟨nd, rfl⟩⟩; refine ⟨_, rfl, ?_⟩))
      (try simp only [Act.put, sa_, sz_, ss_])
      go_cut [12, 13] (fun v12 v13 wc => ∃ (kq : Nat) (x12_16 : Int) (x13_16 : Int), v12 = .int .i64 x12_16 ∧ v13 = .int .i64 x13_16 ∧ Aside0 (spec_l4Hashed.j0 kq l0 a1 l3 (rdOf ByteArray.empty l3 (ji13)) t696 x12_16 x13_16 = some (r1, r2)) ∧ Aside0 (kq ≤ k) ∧ Aside0 (Below w.heap.size w wc))
      case first =>
       have H := HC17.out
       clear HC17
       by_cases c18 : a1 ≥ t696
       rotate_left
       · rw [if_neg c18] at H
         have c18b0 : decide (t696 ≤ a1) = false := decide_eq_false c18
         clear c18
         (first | rw [c18b0] | (simp only [i64_w, i32_w]; rw [c18b0]) | skip)
         have H' := Aside0.mk H
         clear H
         go_wp2
         go_meet
         case rel => exact ⟨_, (t696), (a1), rs_, rs_, H', ⟨by first | omega | exact Nat.le_refl _⟩, ⟨be_ HB.out⟩⟩
       rw [if_pos c18] at H
       have c18b0 : decide (t696 ≤ a1) = true := decide_eq_true c18
       clear c18
       (first | rw [c18b0] | (simp only [i64_w, i32_w]; rw [c18b0]) | skip)
       have H' := Aside0.mk H
       clear H
       go_wp2
       go_meet
       case rel => exact ⟨_, (wrap64 (a2 - t696)), (wrap64 (a1 - t696)), rs_, rs_, H', ⟨by first | omega | exact Nat.le_refl _⟩, ⟨be_ HB.out⟩⟩
      case rest =>
       clear HC17
       try clear c1
       try clear p2
       try clear c3
       try clear c5
       try clear c5b0
       try clear p6
       try clear q6
       try clear hx6
       try clear hcv6
       try clear c7
       try clear hcv7
       try clear c9
       try clear c10
       try clear c10b0
       try clear c10b1
       try clear c10b2
       try clear c14
       try clear c14b0
       try clear c15
       try clear c15b0
       try clear c18
       try clear c18b0
       try clear hx695_0
       try clear p695
       try clear q695
       obtain ⟨kq, x12_16, x13_16, rfl, rfl, HA, HJ16, HB⟩ := hcut
       cases kq with
       | zero => exact absurd HA.out (by simp [spec_l4Hashed.j0])
       | succ kj16 =>
        have H := HA.out
        clear HA
        simp only [spec_l4Hashed.j0] at H
        obtain ⟨ji19, hji19⟩ : ∃ j_ : Int, (wrap64 ((l3.length : Int) - 1)) = j_ := ⟨_, rfl⟩
        (try clear hji13w); (try clear hji13)
        replace H : (if 0 ≤ (ji19) then (if (ji19) ≤ (l3.length : Int) then ((spec_l4Hashed.f kj16 l0 x13_16 x12_16 (l3.take ((ji19) : Int).toNat)).bind fun bt698 => (if bt698.2 = true then (if 0 ≤ (wrap64 ((bt698.1.length : Int) - 1)) then (if (wrap64 ((bt698.1.length : Int) - 1)) < (bt698.1.length : Int) then (if (rdOf ByteArray.empty bt698.1 (wrap64 ((bt698.1.length : Int) - 1))).size ≤ 9223372036854775807 then ((spec_Digest.f kj16 (bytesOf (rdOf ByteArray.empty bt698.1 (wrap64 ((bt698.1.length : Int) - 1))))).bind fun t710 => (if a1 < t696 then ((spec_l4Node.f t710 (rdOf ByteArray.empty l3 (ji13))).bind fun t711 => (if bt698.1.length < 8796093022208 then (some ((bt698.1 ++ [strOfNums t711]), true)) else (none))) else ((spec_l4Node.f (rdOf ByteArray.empty l3 (ji13)) t710).bind fun t717 => (if bt698.1.length < 8796093022208 then (some ((bt698.1 ++ [strOfNums t717]), true)) else (none))))) else (none)) else (none)) else (none)) else (some ((([] : List ByteArray)), false)))) else (none)) else (none)) = some (r1, r2) := by first | (rw [hji19] at H; exact H) | (simp only [hji19] at H ⊢; exact H)
        have hji19w : (IntKind.i64.wrap ((l3.length : Int) - 1)) = ji19 := (i64_w _).trans hji19
        obtain ⟨c20, H⟩ := ip_ H
        have c20b0 := eq_true c20
        have c20b1 : decide (0 ≤ (ji19)) = true := decide_eq_true c20
        clear c20
        obtain ⟨c21, H⟩ := ip_ H
        have c21b0 := eq_true c21
        have c21b1 : decide ((ji19) ≤ (l3.length : Int)) = true := decide_eq_true c21
        clear c21
        obtain ⟨⟨t698, t699⟩, A22, H⟩ := bo_ H; try dsimp only at H
        by_cases c23 : t699 = true
        · subst c23
          rw [if_pos rfl] at H
          obtain ⟨ji24, hji24⟩ : ∃ j_ : Int, (wrap64 ((t698.length : Int) - 1)) = j_ := ⟨_, rfl⟩
          replace H : (if 0 ≤ (ji24) then (if (ji24) < (t698.length : Int) then (if (rdOf ByteArray.empty t698 (ji24)).size ≤ 9223372036854775807 then ((spec_Digest.f kj16 (bytesOf (rdOf ByteArray.empty t698 (ji24)))).bind fun t710 => (if a1 < t696 then ((spec_l4Node.f t710 (rdOf ByteArray.empty l3 (ji13))).bind fun t711 => (if t698.length < 8796093022208 then (some ((t698 ++ [strOfNums t711]), true)) else (none))) else ((spec_l4Node.f (rdOf ByteArray.empty l3 (ji13)) t710).bind fun t717 => (if t698.length < 8796093022208 then (some ((t698 ++ [strOfNums t717]), true)) else (none))))) else (none)) else (none)) else (none)) = some (r1, r2) := by first | (rw [hji24] at H; exact H) | (simp only [hji24] at H ⊢; exact H)
          (try rw [hji24] at A22)
          have hji24w : (IntKind.i64.wrap ((t698.length : Int) - 1)) = ji24 := (i64_w _).trans hji24
          obtain ⟨c25, H⟩ := ip_ H
          have c25b0 : decide (0 ≤ (ji24)) = true := decide_eq_true c25
          clear c25
          obtain ⟨c26, H⟩ := ip_ H
          have c26b0 : decide ((ji24) < (t698.length : Int)) = true := decide_eq_true c26
          clear c26
          obtain ⟨c27, H⟩ := ip_ H
          have c27b0 := eq_true c27
          have c27b1 : decide ((rdOf ByteArray.empty t698 (ji24)).size ≤ 9223372036854775807) = true := decide_eq_true c27
          try have c27b2 : (9223372036854775807 < (rdOf ByteArray.empty t698 (ji24)).size) = False := eq_false (Nat.not_lt.2 c27)
          clear c27
          obtain ⟨y706, hy706⟩ : ∃ y_ : List Int, y_ = (bytesOf (rdOf ByteArray.empty t698 (ji24))) := ⟨_, rfl⟩
          replace H : ((spec_Digest.f kj16 y706).bind fun t710 => (if a1 < t696 then ((spec_l4Node.f t710 (rdOf ByteArray.empty l3 (ji13))).bind fun t711 => (if t698.length < 8796093022208 then (some ((t698 ++ [strOfNums t711]), true)) else (none))) else ((spec_l4Node.f (rdOf ByteArray.empty l3 (ji13)) t710).bind fun t717 => (if t698.length < 8796093022208 then (some ((t698 ++ [strOfNums t717]), true)) else (none))))) = some (r1, r2) := ry_ hy706 H
          have Ny706 := Aside0.mk hy706
          clear hy706
          obtain ⟨t710, A28, H⟩ := bo_ H
          by_cases c29 : a1 < t696
          · rw [if_pos c29] at H
            have c29b0 := decide_eq_true c29
            clear c29
            obtain ⟨t711, A30, H⟩ := bo_ H
            obtain ⟨c31, H⟩ := ip_ H
            have LMc31 := Aside0.mk c31
            clear c31
            obtain ⟨y714, hy714⟩ : ∃ y_ : List ByteArray, y_ = (t698 ++ [strOfNums t711]) := ⟨_, rfl⟩
            replace H : (some (y714, true)) = some (r1, r2) := ry_ hy714 H
            have Ny714 := Aside0.mk hy714
            clear hy714
            simp only [Option.some.injEq, Prod.mk.injEq] at H
            obtain ⟨rfl, rfl⟩ := H
            obtain ⟨i032, hi032, _, hsz32, _⟩ := info_parts info9
            obtain ⟨hcut32, hA32, hC32⟩ := print_take_of (P := Try.prog) Value.string (⟨#[]⟩ : ByteArray) 27 9 .i64 Try.underlying27 hi032 hsz32 (some ad695) c3 l3 (ji19) od_ od_ HC3.out
            have HR697 := q_ (Kd.C_of_reads (h1 := fun _ => rfl) (hA32 _ (Kd.reads_of_C HR3.out)))
            have HC697 := Aside0.mk hC32
            clear hA32 hC32 hi032 hsz32
            go_wp2_with (first | ((with_reducible refine gate_callee (f := 90) rfl ?_); refine gl_ (some 57) Try.func90 #[.slice A0 l0.length c0, .int .i64 x13_16, .int .i64 x12_16, .slice (some ad695) (l3.take ((ji19) : Int).toNat).length c3] rfl (by (try simp only [List.map_toArray, List.map_cons, List.map_nil]); first | done | (rw [show (l3.take ((ji19) : Int).toNat).length = (ji19).toNat from (by rw [List.length_take]; have h_ : ((ji19) : Int) ≤ (l3.length : Int) := od_; omega)] <;> rfl) | (simp only [hji19]; rfl) | rfl | (simp only [List.length_drop, List.length_take]; rfl)) ?_; (with_reducible refine (ih kj16 (by have := HJ16.out; omega) _ _ l0 x13_16 x12_16 _ _ (l3.take ((ji19) : Int).toNat) t698 true _ ?side1 ?side2 ?side3 ?side4 A22.out).mono ?_); (case side1 => exact kc_ (Kd.C_below HR0.out HB.out)); (case side2 => exact HC0.out); (case side3 => exact kc_ (Kd.C_below HR697.out HB.out)); (case side4 => exact HC697.out); rintro e w33 ⟨v700, rfl, ho0, hb⟩; refine ⟨_, rfl, ?_⟩; have HO701 := q_ (Kd.R_lower ho0 (below_size (be_ HB.out))); replace HB := q_ (below_step (be_ HB.out) hb); (try clear hb); (try clear ho0); obtain ⟨Ao34, co34, eo34⟩ := Kd.R_slice HO701.out; subst eo34; have p705 : 0 ≤ ((ji24) : Int) := od_; have q705 : (ji24) < (t698.length : Int) := od_; obtain ⟨ad705, e705, hx705_0⟩ := Kd.at_string (Kd.R_reads' HO701.out).2.2 (ji24) p705 q705; cases e705; replace p705 := eq_true p705; replace q705 := eq_true q705) | ((with_reducible refine gate_dst (N := 69) rfl ?_); refine Kd.conv_event rfl 9 22 5 _ (rdOf ByteArray.empty t698 (ji24)) y706 rfl rfl Try.underlying9 Try.underlying22 Try.underlying5 Ny706.out od_ ?_; intro g709 c709 w35 hr_ hc_ hb; replace HO701 := q_ (Kd.R_below (kr_ HO701.out) hb); replace HB := q_ (below_step (be_ HB.out) hb); have HR709 := q_ (hr_); have HC709 := q_ (hc_); clear hb hr_ hc_) | ((with_reducible refine gate_callee (f := 39) rfl ?_); refine gl_ (some 70) Try.func39 #[.slice (some ⟨g709, 0, none⟩) y706.length c709] rfl al_ ?_; (with_reducible refine (spec_Digest.calls kj16 _ _ y706 t710 _ ?side1 ?side2 A28.out).mono ?_); (case side1 => repeat (first | exact (by repeat (first | (with_reducible exact HR709.out) | (with_reducible refine Kd.C_alloc ?_ _) | (with_reducible refine Kd.C_drewN ?_ _) | (with_reducible refine Kd.C_drew ?_) | exact HR709.out)) | (with_reducible refine Kd.C_alloc ?_ _) | (with_reducible refine Kd.C_drewN ?_ _) | (with_reducible refine Kd.C_drew ?_))); (case side2 => exact HC709.out); rintro e w36 ⟨rfl, hb⟩; refine ⟨_, rfl, ?_⟩; replace HO701 := q_ (Kd.R_below (kr_ HO701.out) hb); replace HR709 := q_ (Kd.C_below (by repeat (first | (with_reducible exact HR709.out) | (with_reducible refine Kd.C_alloc ?_ _) | (with_reducible refine Kd.C_drewN ?_ _) | (with_reducible refine Kd.C_drew ?_) | exact HR709.out)) hb); replace HB := q_ (below_step (be_ HB.out) hb); (try clear hb)) | ((with_reducible refine gate_callee (f := 109) rfl ?_); refine gl_ (some 77) Try.func109 #[.string t710, .string (rdOf ByteArray.empty l3 (ji13))] rfl (by (try simp only [List.map_toArray, List.map_cons, List.map_nil]); first | done | (simp only [hji13]; rfl) | rfl | (simp only [List.length_drop, List.length_take]; rfl)) ?_; (with_reducible refine (spec_l4Node.calls t710 (rdOf ByteArray.empty l3 (ji13)) t711 _ A30.out).mono ?_); rintro e w37 ⟨v712, rfl, ho0, hb⟩; refine ⟨_, rfl, ?_⟩; replace HO701 := q_ (Kd.R_below (kr_ HO701.out) hb); have HO713 := q_ (Kd.R_lower ho0 (below_size (be_ HB.out))); replace HR709 := q_ (Kd.C_below (by repeat (first | (with_reducible exact HR709.out) | (with_reducible refine Kd.C_alloc ?_ _) | (with_reducible refine Kd.C_drewN ?_ _) | (with_reducible refine Kd.C_drew ?_) | exact HR709.out)) hb); replace HB := q_ (below_step (be_ HB.out) hb); (try clear hb); (try clear ho0); have hcv38 := own_string (P := Try.prog) Try.underlying22 Try.underlying5 Try.underlying9 (Kd.own_of_R HO713.out)) | ((with_reducible refine gate_builtin (b := .append) (xs := #[.tmp 74, .tmp 79]) rfl ?_); at_builtin; refine Kd.R_append Kd.string (w0 := w) w.heap.size rfl (.tmp 74) (.tmp 79) 27 9 (.string ⟨#[]⟩) 16 rfl Try.underlying27 info9 rfl (by decide) (by omega) (.slice (some ad705) t698.length co34) t698 (strOfNums t711) [.string (strOfNums t711)] (fun _ => True) (fun _ => False) rfl rfl ?aP (fun _ hk => hk.elim) ?aF ?aO ?aB ?aS ?aL ?_; (case aP => exact rfl); (case aB => exact (be_ HB.out)); (case aF => exact (fun _ _ => trivial)); (case aO => exact (kr_ HO701.out)); (case aS => exact (below_size (be_ HB.out))); (case aL => have := LMc31.out; omega); intro v715 w39 ho hb hg hat; rw [← Ny714.out] at ho; have n0_ := q_ (Kd.R_over' (kr_ HO713.out) (Kd.R_typed (kr_ HO701.out)) (by decide) hg); have n1_ := q_ (hb); have n2_ := q_ (ho); clear HO713; clear HB; clear HO701; have HO713 := n0_; have HB := n1_; have HO716 := n2_; clear n0_ n1_ n2_; clear ho hb hg hat))
            go_ret2
            exact ⟨_, by first | rfl | (simp [errW_none, errW_some] <;> rfl) | (simp only [← hji13, ← hji19, ← hji24]; first | rfl | (simp [errW_none, errW_some] <;> rfl)) | (simp [*, errW_none, errW_some] <;> rfl), by (with_reducible repeat (first | apply Kd.R_alloc | apply Kd.R_drewN | apply Kd.R_drew)); exact HO716.out, be_ HB.out⟩
          rw [if_neg c29] at H
          have c29b0 := decide_eq_false c29
          clear c29
          obtain ⟨t717, A40, H⟩ := bo_ H
          obtain ⟨c41, H⟩ := ip_ H
          have LMc41 := Aside0.mk c41
          clear c41
          obtain ⟨y720, hy720⟩ : ∃ y_ : List ByteArray, y_ = (t698 ++ [strOfNums t717]) := ⟨_, rfl⟩
          replace H : (some (y720, true)) = some (r1, r2) := ry_ hy720 H
          have Ny720 := Aside0.mk hy720
          clear hy720
          simp only [Option.some.injEq, Prod.mk.injEq] at H
          obtain ⟨rfl, rfl⟩ := H
          obtain ⟨i042, hi042, _, hsz42, _⟩ := info_parts info9
          obtain ⟨hcut42, hA42, hC42⟩ := print_take_of (P := Try.prog) Value.string (⟨#[]⟩ : ByteArray) 27 9 .i64 Try.underlying27 hi042 hsz42 (some ad695) c3 l3 (ji19) od_ od_ HC3.out
          have HR697 := q_ (Kd.C_of_reads (h1 := fun _ => rfl) (hA42 _ (Kd.reads_of_C HR3.out)))
          have HC697 := Aside0.mk hC42
          clear hA42 hC42 hi042 hsz42
          go_wp2_with (first | ((with_reducible refine gate_callee (f := 90) rfl ?_); refine gl_ (some 57) Try.func90 #[.slice A0 l0.length c0, .int .i64 x13_16, .int .i64 x12_16, .slice (some ad695) (l3.take ((ji19) : Int).toNat).length c3] rfl (by (try simp only [List.map_toArray, List.map_cons, List.map_nil]); first | done | (rw [show (l3.take ((ji19) : Int).toNat).length = (ji19).toNat from (by rw [List.length_take]; have h_ : ((ji19) : Int) ≤ (l3.length : Int) := od_; omega)] <;> rfl) | (simp only [hji19]; rfl) | rfl | (simp only [List.length_drop, List.length_take]; rfl)) ?_; (with_reducible refine (ih kj16 (by have := HJ16.out; omega) _ _ l0 x13_16 x12_16 _ _ (l3.take ((ji19) : Int).toNat) t698 true _ ?side1 ?side2 ?side3 ?side4 A22.out).mono ?_); (case side1 => exact kc_ (Kd.C_below HR0.out HB.out)); (case side2 => exact HC0.out); (case side3 => exact kc_ (Kd.C_below HR697.out HB.out)); (case side4 => exact HC697.out); rintro e w43 ⟨v700, rfl, ho0, hb⟩; refine ⟨_, rfl, ?_⟩; have HO701 := q_ (Kd.R_lower ho0 (below_size (be_ HB.out))); replace HB := q_ (below_step (be_ HB.out) hb); (try clear hb); (try clear ho0); obtain ⟨Ao44, co44, eo44⟩ := Kd.R_slice HO701.out; subst eo44; have p705 : 0 ≤ ((ji24) : Int) := od_; have q705 : (ji24) < (t698.length : Int) := od_; obtain ⟨ad705, e705, hx705_0⟩ := Kd.at_string (Kd.R_reads' HO701.out).2.2 (ji24) p705 q705; cases e705; replace p705 := eq_true p705; replace q705 := eq_true q705) | ((with_reducible refine gate_dst (N := 69) rfl ?_); refine Kd.conv_event rfl 9 22 5 _ (rdOf ByteArray.empty t698 (ji24)) y706 rfl rfl Try.underlying9 Try.underlying22 Try.underlying5 Ny706.out od_ ?_; intro g709 c709 w45 hr_ hc_ hb; replace HO701 := q_ (Kd.R_below (kr_ HO701.out) hb); replace HB := q_ (below_step (be_ HB.out) hb); have HR709 := q_ (hr_); have HC709 := q_ (hc_); clear hb hr_ hc_) | ((with_reducible refine gate_callee (f := 39) rfl ?_); refine gl_ (some 70) Try.func39 #[.slice (some ⟨g709, 0, none⟩) y706.length c709] rfl al_ ?_; (with_reducible refine (spec_Digest.calls kj16 _ _ y706 t710 _ ?side1 ?side2 A28.out).mono ?_); (case side1 => repeat (first | exact (by repeat (first | (with_reducible exact HR709.out) | (with_reducible refine Kd.C_alloc ?_ _) | (with_reducible refine Kd.C_drewN ?_ _) | (with_reducible refine Kd.C_drew ?_) | exact HR709.out)) | (with_reducible refine Kd.C_alloc ?_ _) | (with_reducible refine Kd.C_drewN ?_ _) | (with_reducible refine Kd.C_drew ?_))); (case side2 => exact HC709.out); rintro e w46 ⟨rfl, hb⟩; refine ⟨_, rfl, ?_⟩; replace HO701 := q_ (Kd.R_below (kr_ HO701.out) hb); replace HR709 := q_ (Kd.C_below (by repeat (first | (with_reducible exact HR709.out) | (with_reducible refine Kd.C_alloc ?_ _) | (with_reducible refine Kd.C_drewN ?_ _) | (with_reducible refine Kd.C_drew ?_) | exact HR709.out)) hb); replace HB := q_ (below_step (be_ HB.out) hb); (try clear hb)) | ((with_reducible refine gate_callee (f := 109) rfl ?_); refine gl_ (some 84) Try.func109 #[.string (rdOf ByteArray.empty l3 (ji13)), .string t710] rfl (by (try simp only [List.map_toArray, List.map_cons, List.map_nil]); first | done | (simp only [hji13]; rfl) | rfl | (simp only [List.length_drop, List.length_take]; rfl)) ?_; (with_reducible refine (spec_l4Node.calls (rdOf ByteArray.empty l3 (ji13)) t710 t717 _ A40.out).mono ?_); rintro e w47 ⟨v718, rfl, ho0, hb⟩; refine ⟨_, rfl, ?_⟩; replace HO701 := q_ (Kd.R_below (kr_ HO701.out) hb); have HO719 := q_ (Kd.R_lower ho0 (below_size (be_ HB.out))); replace HR709 := q_ (Kd.C_below (by repeat (first | (with_reducible exact HR709.out) | (with_reducible refine Kd.C_alloc ?_ _) | (with_reducible refine Kd.C_drewN ?_ _) | (with_reducible refine Kd.C_drew ?_) | exact HR709.out)) hb); replace HB := q_ (below_step (be_ HB.out) hb); (try clear hb); (try clear ho0); have hcv48 := own_string (P := Try.prog) Try.underlying22 Try.underlying5 Try.underlying9 (Kd.own_of_R HO719.out)) | ((with_reducible refine gate_builtin (b := .append) (xs := #[.tmp 81, .tmp 86]) rfl ?_); at_builtin; refine Kd.R_append Kd.string (w0 := w) w.heap.size rfl (.tmp 81) (.tmp 86) 27 9 (.string ⟨#[]⟩) 16 rfl Try.underlying27 info9 rfl (by decide) (by omega) (.slice (some ad705) t698.length co44) t698 (strOfNums t717) [.string (strOfNums t717)] (fun _ => True) (fun _ => False) rfl rfl ?aP (fun _ hk => hk.elim) ?aF ?aO ?aB ?aS ?aL ?_; (case aP => exact rfl); (case aB => exact (be_ HB.out)); (case aF => exact (fun _ _ => trivial)); (case aO => exact (kr_ HO701.out)); (case aS => exact (below_size (be_ HB.out))); (case aL => have := LMc41.out; omega); intro v721 w49 ho hb hg hat; rw [← Ny720.out] at ho; have n0_ := q_ (Kd.R_over' (kr_ HO719.out) (Kd.R_typed (kr_ HO701.out)) (by decide) hg); have n1_ := q_ (hb); have n2_ := q_ (ho); clear HO719; clear HB; clear HO701; have HO719 := n0_; have HB := n1_; have HO722 := n2_; clear n0_ n1_ n2_; clear ho hb hg hat))
          go_ret2
          exact ⟨_, by first | rfl | (simp [errW_none, errW_some] <;> rfl) | (simp only [← hji13, ← hji19, ← hji24]; first | rfl | (simp [errW_none, errW_some] <;> rfl)) | (simp [*, errW_none, errW_some] <;> rfl), by (with_reducible repeat (first | apply Kd.R_alloc | apply Kd.R_drewN | apply Kd.R_drew)); exact HO722.out, be_ HB.out⟩
        · replace c23 := Bool.eq_false_iff.mpr c23
          subst c23
          rw [if_neg (show ¬ (false = true) by decide)] at H
          obtain ⟨y702, hy702⟩ : ∃ y_ : List ByteArray, y_ = (([] : List ByteArray)) := ⟨_, rfl⟩
          replace H : (some (y702, false)) = some (r1, r2) := ry_ hy702 H
          have Ny702 := Aside0.mk hy702
          clear hy702
          simp only [Option.some.injEq, Prod.mk.injEq] at H
          obtain ⟨rfl, rfl⟩ := H
          obtain ⟨i050, hi050, _, hsz50, _⟩ := info_parts info9
          obtain ⟨hcut50, hA50, hC50⟩ := print_take_of (P := Try.prog) Value.string (⟨#[]⟩ : ByteArray) 27 9 .i64 Try.underlying27 hi050 hsz50 (some ad695) c3 l3 (ji19) od_ od_ HC3.out
          have HR697 := q_ (Kd.C_of_reads (h1 := fun _ => rfl) (hA50 _ (Kd.reads_of_C HR3.out)))
          have HC697 := Aside0.mk hC50
          clear hA50 hC50 hi050 hsz50
          go_wp2_with (first | ((with_reducible refine gate_callee (f := 90) rfl ?_); refine gl_ (some 57) Try.func90 #[.slice A0 l0.length c0, .int .i64 x13_16, .int .i64 x12_16, .slice (some ad695) (l3.take ((ji19) : Int).toNat).length c3] rfl (by (try simp only [List.map_toArray, List.map_cons, List.map_nil]); first | done | (rw [show (l3.take ((ji19) : Int).toNat).length = (ji19).toNat from (by rw [List.length_take]; have h_ : ((ji19) : Int) ≤ (l3.length : Int) := od_; omega)] <;> rfl) | (simp only [hji19]; rfl) | rfl | (simp only [List.length_drop, List.length_take]; rfl)) ?_; (with_reducible refine (ih kj16 (by have := HJ16.out; omega) _ _ l0 x13_16 x12_16 _ _ (l3.take ((ji19) : Int).toNat) t698 false _ ?side1 ?side2 ?side3 ?side4 A22.out).mono ?_); (case side1 => exact kc_ (Kd.C_below HR0.out HB.out)); (case side2 => exact HC0.out); (case side3 => exact kc_ (Kd.C_below HR697.out HB.out)); (case side4 => exact HC697.out); rintro e w51 ⟨v700, rfl, ho0, hb⟩; refine ⟨_, rfl, ?_⟩; have HO701 := q_ (Kd.R_lower ho0 (below_size (be_ HB.out))); replace HB := q_ (below_step (be_ HB.out) hb); (try clear hb); (try clear ho0)) | ((with_reducible refine gate_dst (N := 62) rfl ?_); refine Kd.R_lit Kd.string _ 9 ?hg (N := 62) ?hd (xs := ([] : List ByteArray)) (inner := []) (ok := fun _ => True) (okp := fun _ => True) ?hr ?hp (fun _ hk => hk) trivial (Below.refl _ _) (Nat.le_refl _) (by simp) ?_; (case hd => rfl); (case hg => rfl); (case hr => first | (go_simp; done) | (go_simp; rfl)); (case hp => exact (Reps.none _ _)); intro v703 w52 ho53 hb hg_ hnew_; clear hg_ hnew_; (first | rw [← Ny702.out] at ho53 | (simp only [Int.reduceToNat] at ho53; rw [← Ny702.out] at ho53)); have HO704 := q_ (Kd.R_lower (Kd.R_new' ho53 (Kd.R_lt (kr_ HO701.out))) (below_size (be_ HB.out))); replace HO701 := q_ (Kd.R_elder' (kr_ HO701.out) (Kd.R_base ho53) hb); replace HB := q_ (below_step (be_ HB.out) hb); clear hb ho53))
          go_ret2
          exact ⟨_, by first | rfl | (simp [errW_none, errW_some] <;> rfl) | (simp only [← hji13, ← hji19]; first | rfl | (simp [errW_none, errW_some] <;> rfl)) | (simp [*, errW_none, errW_some] <;> rfl), by (with_reducible repeat (first | apply Kd.R_alloc | apply Kd.R_drewN | apply Kd.R_drew)); exact Kd.R_mono HO704.out (fun _ hk => trivial), be_ HB.out⟩

/-! ###  spec_l4Top: function 91 -/
def spec_l4Top.f (k : Nat) (a0 : Int) (a1 : ByteArray) : Option (List Int) := (spec_PutNum.f k (([2] : List Int)) a0).bind fun t726 => (if t726.length + a1.size < 140737488355328 then (some (t726 ++ bytesOf a1)) else (none))
set_option maxHeartbeats 8000000 in
set_option maxRecDepth 100000 in
theorem spec_l4Top.calls (k : Nat) (a0 : Int) (a1 : ByteArray) (r : List Int) (w : World) (h : spec_l4Top.f k a0 a1 = some r) :
  Calls Try.prog 91 #[.int .i64 a0, .string a1] w fun e w' => ∃ v0_ : Value, e = .returned (v0_) ∧ Kd.R (Kd.int .u8) 5 w' w.heap.size (fun _ => True) v0_ r ∧ Below w.heap.size w w' := by
  have HB := q_ (Below.refl w.heap.size w)
  have H := h
  clear h
  unfold spec_l4Top.f at H
  obtain ⟨y723, hy723⟩ : ∃ y_ : List Int, y_ = (([2] : List Int)) := ⟨_, rfl⟩
  replace H : ((spec_PutNum.f k y723 a0).bind fun t726 => (if t726.length + a1.size < 140737488355328 then (some (t726 ++ bytesOf a1)) else (none))) = some r := ry_ hy723 H
  have Ny723 := Aside0.mk hy723
  clear hy723
  obtain ⟨t726, A3, H⟩ := bo_ H
  obtain ⟨c4, H⟩ := ip_ H
  have LMc4 := Aside0.mk c4
  clear c4
  obtain ⟨y729, hy729⟩ : ∃ y_ : List Int, y_ = (t726 ++ bytesOf a1) := ⟨_, rfl⟩
  replace H : (some y729) = some r := ry_ hy729 H
  have Ny729 := Aside0.mk hy729
  clear hy729
  obtain rfl := Option.some.inj H
  go_enter Try.func91, Try.ntmps91
  go_wp2_with (first | ((with_reducible refine gate_dst (N := 5) rfl ?_); refine Kd.R_lit (Kd.int .u8) _ 5 ?hg (N := 5) ?hd (xs := ([2] : List Int)) (inner := [.int .u8 2]) (ok := fun _ => True) (okp := fun _ => True) ?hr ?hp (fun _ hk => hk) trivial (Below.refl _ _) (Nat.le_refl _) (by simp) ?_; (case hd => rfl); (case hg => rfl); (case hr => first | (go_simp; done) | (go_simp; rfl)); (case hp => exact (Reps.one (show Kd.M (Kd.int .u8) _ _ _ 2 [.int .u8 2] from rfl) (Reps.none _ _))); intro v724 w5 ho6 hb hg_ hnew_; clear hg_ hnew_; (first | rw [← Ny723.out] at ho6 | (simp only [Int.reduceToNat] at ho6; rw [← Ny723.out] at ho6)); have HO725 := q_ (Kd.R_lower ho6 (below_size (be_ HB.out))); replace HB := q_ (below_step (be_ HB.out) hb); clear hb ho6; obtain ⟨Ao7, co7, eo7⟩ := Kd.R_slice HO725.out; subst eo7) | ((with_reducible refine gate_callee (f := 110) rfl ?_); refine gl_ (some 7) Try.func110 #[.slice Ao7 y723.length co7, .int .i64 a0] rfl al_ ?_; (with_reducible refine (spec_PutNum.calls k _ _ y723 a0 t726 _ ?side1 ?side2 A3.out).mono ?_); (case side1 => exact kc_ (Kd.R_reads' HO725.out).2.2); (case side2 => exact (Kd.R_reads' HO725.out).2.1); rintro e w8 ⟨v727, rfl, ho0, hb⟩; refine ⟨_, rfl, ?_⟩; have HO728 := q_ (Kd.R_lower (Kd.R_new' ho0 (Kd.R_lt (kr_ HO725.out))) (below_size (be_ HB.out))); replace HO725 := q_ (Kd.R_elder' (kr_ HO725.out) (Kd.R_base ho0) hb); replace HB := q_ (below_step (be_ HB.out) hb); (try clear hb); (try clear ho0)) | ((with_reducible refine gate_builtin (b := .append) (xs := #[.tmp 7, _]) rfl ?_); at_builtin; refine Kd.R_append_str (w0 := w) w.heap.size rfl (.tmp 7) _ 22 9 5 rfl Try.underlying22 Try.underlying9 info5 v727 t726 a1 (fun k_ => some k_ ≠ (.slice Ao7 y723.length co7 : Value).ownBlock) rfl rfl ?aF ?aO ?aB ?aS ?aL ?_; (case aB => exact (be_ HB.out)); (case aF => exact (fun k_ hk => Kd.fresh' (Kd.R_lt (kr_ HO725.out)) k_ hk)); (case aO => exact (by (with_reducible repeat (first | apply Kd.R_alloc | apply Kd.R_drewN | apply Kd.R_drew)); exact Kd.R_mono HO728.out (fun _ hk => hk.2))); (case aS => exact (below_size (be_ HB.out))); (case aL => have := LMc4.out; omega); intro v730 w9 ho hb hg hat; rw [← Ny729.out] at ho; have n0_ := q_ (Kd.R_after (ok := (fun _ => True)) (kr_ HO725.out) hg hat); have n1_ := q_ (hb); have n2_ := q_ (ho); clear HO725; clear HB; clear HO728; have HO725 := n0_; have HB := n1_; have HO731 := n2_; clear n0_ n1_ n2_; clear ho hb hg hat))
  go_ret
  exact ⟨_, rf_, by (with_reducible repeat (first | apply Kd.R_alloc | apply Kd.R_drewN | apply Kd.R_drew)); exact Kd.R_mono HO731.out (fun _ hk => trivial), be_ HB.out⟩

/-! ###  spec_l4All: function 48 -/
def spec_l4All.f (k : Nat) (l0 : List Int) (a1 : Int) (a2 : Int) (l3 : List ByteArray) : Option (List ByteArray × Bool) := (spec_l4Hashed.f k l0 a1 a2 l3).bind fun bt732 => (if bt732.2 = true then (if 0 ≤ (wrap64 ((bt732.1.length : Int) - 1)) then (if (wrap64 ((bt732.1.length : Int) - 1)) < (bt732.1.length : Int) then (if (rdOf ByteArray.empty bt732.1 (wrap64 ((bt732.1.length : Int) - 1))).size ≤ 9223372036854775807 then ((spec_Digest.f k (bytesOf (rdOf ByteArray.empty bt732.1 (wrap64 ((bt732.1.length : Int) - 1))))).bind fun t741 => ((spec_l4Top.f k a2 t741).bind fun t742 => (if bt732.1.length < 8796093022208 then (some ((bt732.1 ++ [strOfNums t742]), true)) else (none)))) else (none)) else (none)) else (none)) else (some ((([] : List ByteArray)), false)))
set_option maxHeartbeats 8000000 in
set_option maxRecDepth 100000 in
theorem spec_l4All.calls (k : Nat) (A0 : Option Addr) (c0 : Nat) (l0 : List Int) (a1 : Int) (a2 : Int) (A3 : Option Addr) (c3 : Nat) (l3 : List ByteArray) (r1 : List ByteArray) (r2 : Bool) (w : World) (hr0 : Kd.C (Kd.int .u8) w A0 l0.length l0) (hc0 : l0.length ≤ c0) (hr3 : Kd.C Kd.string w A3 l3.length l3) (hc3 : l3.length ≤ c3) (h : spec_l4All.f k l0 a1 a2 l3 = some (r1, r2)) :
  Calls Try.prog 48 #[.slice A0 l0.length c0, .int .i64 a1, .int .i64 a2, .slice A3 l3.length c3] w fun e w' => ∃ v0_ : Value, e = .returned (.tuple #[v0_, .bool r2]) ∧ Kd.R Kd.string 9 w' w.heap.size (fun _ => True) v0_ r1 ∧ Below w.heap.size w w' := by
  have HR0 := Aside0.mk hr0
  have HC0 := Aside0.mk hc0
  clear hr0 hc0
  have HR3 := Aside0.mk hr3
  have HC3 := Aside0.mk hc3
  clear hr3 hc3
  have HB := q_ (Below.refl w.heap.size w)
  have H := h
  clear h
  unfold spec_l4All.f at H
  obtain ⟨⟨t732, t733⟩, A5, H⟩ := bo_ H; try dsimp only at H
  by_cases c6 : t733 = true
  · subst c6
    rw [if_pos rfl] at H
    obtain ⟨ji7, hji7⟩ : ∃ j_ : Int, (wrap64 ((t732.length : Int) - 1)) = j_ := ⟨_, rfl⟩
    replace H : (if 0 ≤ (ji7) then (if (ji7) < (t732.length : Int) then (if (rdOf ByteArray.empty t732 (ji7)).size ≤ 9223372036854775807 then ((spec_Digest.f k (bytesOf (rdOf ByteArray.empty t732 (ji7)))).bind fun t741 => ((spec_l4Top.f k a2 t741).bind fun t742 => (if t732.length < 8796093022208 then (some ((t732 ++ [strOfNums t742]), true)) else (none)))) else (none)) else (none)) else (none)) = some (r1, r2) := by first | (rw [hji7] at H; exact H) | (simp only [hji7] at H ⊢; exact H)
    (try rw [hji7] at A5)
    have hji7w : (IntKind.i64.wrap ((t732.length : Int) - 1)) = ji7 := (i64_w _).trans hji7
    obtain ⟨c8, H⟩ := ip_ H
    have c8b0 : decide (0 ≤ (ji7)) = true := decide_eq_true c8
    clear c8
    obtain ⟨c9, H⟩ := ip_ H
    have c9b0 : decide ((ji7) < (t732.length : Int)) = true := decide_eq_true c9
    clear c9
    obtain ⟨c10, H⟩ := ip_ H
    have c10b0 := eq_true c10
    have c10b1 : decide ((rdOf ByteArray.empty t732 (ji7)).size ≤ 9223372036854775807) = true := decide_eq_true c10
    try have c10b2 : (9223372036854775807 < (rdOf ByteArray.empty t732 (ji7)).size) = False := eq_false (Nat.not_lt.2 c10)
    clear c10
    obtain ⟨y737, hy737⟩ : ∃ y_ : List Int, y_ = (bytesOf (rdOf ByteArray.empty t732 (ji7))) := ⟨_, rfl⟩
    replace H : ((spec_Digest.f k y737).bind fun t741 => ((spec_l4Top.f k a2 t741).bind fun t742 => (if t732.length < 8796093022208 then (some ((t732 ++ [strOfNums t742]), true)) else (none)))) = some (r1, r2) := ry_ hy737 H
    have Ny737 := Aside0.mk hy737
    clear hy737
    obtain ⟨t741, A11, H⟩ := bo_ H
    obtain ⟨t742, A12, H⟩ := bo_ H
    obtain ⟨c13, H⟩ := ip_ H
    have LMc13 := Aside0.mk c13
    clear c13
    obtain ⟨y745, hy745⟩ : ∃ y_ : List ByteArray, y_ = (t732 ++ [strOfNums t742]) := ⟨_, rfl⟩
    replace H : (some (y745, true)) = some (r1, r2) := ry_ hy745 H
    have Ny745 := Aside0.mk hy745
    clear hy745
    simp only [Option.some.injEq, Prod.mk.injEq] at H
    obtain ⟨rfl, rfl⟩ := H
    go_enter Try.func48, Try.ntmps48
    go_wp2_with (first | ((with_reducible refine gate_callee (f := 90) rfl ?_); refine gl_ (some 17) Try.func90 #[.slice A0 l0.length c0, .int .i64 a1, .int .i64 a2, .slice A3 l3.length c3] rfl al_ ?_; (with_reducible refine (spec_l4Hashed.calls k _ _ l0 a1 a2 _ _ l3 t732 true _ ?side1 ?side2 ?side3 ?side4 A5.out).mono ?_); (case side1 => exact kc_ HR0.out); (case side2 => exact HC0.out); (case side3 => exact kc_ HR3.out); (case side4 => exact HC3.out); rintro e w14 ⟨v734, rfl, ho0, hb⟩; refine ⟨_, rfl, ?_⟩; have HO735 := q_ (Kd.R_lower ho0 (below_size (be_ HB.out))); replace HB := q_ (below_step (be_ HB.out) hb); (try clear hb); (try clear ho0); obtain ⟨Ao15, co15, eo15⟩ := Kd.R_slice HO735.out; subst eo15; have p736 : 0 ≤ ((ji7) : Int) := od_; have q736 : (ji7) < (t732.length : Int) := od_; obtain ⟨ad736, e736, hx736_0⟩ := Kd.at_string (Kd.R_reads' HO735.out).2.2 (ji7) p736 q736; cases e736; replace p736 := eq_true p736; replace q736 := eq_true q736) | ((with_reducible refine gate_dst (N := 31) rfl ?_); refine Kd.conv_event rfl 9 22 5 _ (rdOf ByteArray.empty t732 (ji7)) y737 rfl rfl Try.underlying9 Try.underlying22 Try.underlying5 Ny737.out od_ ?_; intro g740 c740 w16 hr_ hc_ hb; replace HO735 := q_ (Kd.R_below (kr_ HO735.out) hb); replace HB := q_ (below_step (be_ HB.out) hb); have HR740 := q_ (hr_); have HC740 := q_ (hc_); clear hb hr_ hc_) | ((with_reducible refine gate_callee (f := 39) rfl ?_); refine gl_ (some 32) Try.func39 #[.slice (some ⟨g740, 0, none⟩) y737.length c740] rfl al_ ?_; (with_reducible refine (spec_Digest.calls k _ _ y737 t741 _ ?side1 ?side2 A11.out).mono ?_); (case side1 => repeat (first | exact (by repeat (first | (with_reducible exact HR740.out) | (with_reducible refine Kd.C_alloc ?_ _) | (with_reducible refine Kd.C_drewN ?_ _) | (with_reducible refine Kd.C_drew ?_) | exact HR740.out)) | (with_reducible refine Kd.C_alloc ?_ _) | (with_reducible refine Kd.C_drewN ?_ _) | (with_reducible refine Kd.C_drew ?_))); (case side2 => exact HC740.out); rintro e w17 ⟨rfl, hb⟩; refine ⟨_, rfl, ?_⟩; replace HO735 := q_ (Kd.R_below (kr_ HO735.out) hb); replace HR740 := q_ (Kd.C_below (by repeat (first | (with_reducible exact HR740.out) | (with_reducible refine Kd.C_alloc ?_ _) | (with_reducible refine Kd.C_drewN ?_ _) | (with_reducible refine Kd.C_drew ?_) | exact HR740.out)) hb); replace HB := q_ (below_step (be_ HB.out) hb); (try clear hb)) | ((with_reducible refine gate_callee (f := 91) rfl ?_); refine gl_ (some 33) Try.func91 #[.int .i64 a2, .string t741] rfl al_ ?_; (with_reducible refine (spec_l4Top.calls k a2 t741 t742 _ A12.out).mono ?_); rintro e w18 ⟨v743, rfl, ho0, hb⟩; refine ⟨_, rfl, ?_⟩; replace HO735 := q_ (Kd.R_below (kr_ HO735.out) hb); have HO744 := q_ (Kd.R_lower ho0 (below_size (be_ HB.out))); replace HR740 := q_ (Kd.C_below (by repeat (first | (with_reducible exact HR740.out) | (with_reducible refine Kd.C_alloc ?_ _) | (with_reducible refine Kd.C_drewN ?_ _) | (with_reducible refine Kd.C_drew ?_) | exact HR740.out)) hb); replace HB := q_ (below_step (be_ HB.out) hb); (try clear hb); (try clear ho0); have hcv19 := own_string (P := Try.prog) Try.underlying22 Try.underlying5 Try.underlying9 (Kd.own_of_R HO744.out)) | ((with_reducible refine gate_builtin (b := .append) (xs := #[.tmp 23, .tmp 35]) rfl ?_); at_builtin; refine Kd.R_append Kd.string (w0 := w) w.heap.size rfl (.tmp 23) (.tmp 35) 27 9 (.string ⟨#[]⟩) 16 rfl Try.underlying27 info9 rfl (by decide) (by omega) (.slice (some ad736) t732.length co15) t732 (strOfNums t742) [.string (strOfNums t742)] (fun _ => True) (fun _ => False) rfl rfl ?aP (fun _ hk => hk.elim) ?aF ?aO ?aB ?aS ?aL ?_; (case aP => exact rfl); (case aB => exact (be_ HB.out)); (case aF => exact (fun _ _ => trivial)); (case aO => exact (kr_ HO735.out)); (case aS => exact (below_size (be_ HB.out))); (case aL => have := LMc13.out; omega); intro v746 w20 ho hb hg hat; rw [← Ny745.out] at ho; have n0_ := q_ (Kd.R_over' (kr_ HO744.out) (Kd.R_typed (kr_ HO735.out)) (by decide) hg); have n1_ := q_ (hb); have n2_ := q_ (ho); clear HO744; clear HB; clear HO735; have HO744 := n0_; have HB := n1_; have HO747 := n2_; clear n0_ n1_ n2_; clear ho hb hg hat))
    go_ret2
    exact ⟨_, by first | rfl | (simp [errW_none, errW_some] <;> rfl) | (simp only [← hji7]; first | rfl | (simp [errW_none, errW_some] <;> rfl)) | (simp [*, errW_none, errW_some] <;> rfl), by (with_reducible repeat (first | apply Kd.R_alloc | apply Kd.R_drewN | apply Kd.R_drew)); exact HO747.out, be_ HB.out⟩
  · replace c6 := Bool.eq_false_iff.mpr c6
    subst c6
    rw [if_neg (show ¬ (false = true) by decide)] at H
    obtain ⟨y748, hy748⟩ : ∃ y_ : List ByteArray, y_ = (([] : List ByteArray)) := ⟨_, rfl⟩
    replace H : (some (y748, false)) = some (r1, r2) := ry_ hy748 H
    have Ny748 := Aside0.mk hy748
    clear hy748
    simp only [Option.some.injEq, Prod.mk.injEq] at H
    obtain ⟨rfl, rfl⟩ := H
    go_enter Try.func48, Try.ntmps48
    go_wp2_with (first | ((with_reducible refine gate_callee (f := 90) rfl ?_); refine gl_ (some 17) Try.func90 #[.slice A0 l0.length c0, .int .i64 a1, .int .i64 a2, .slice A3 l3.length c3] rfl al_ ?_; (with_reducible refine (spec_l4Hashed.calls k _ _ l0 a1 a2 _ _ l3 t732 false _ ?side1 ?side2 ?side3 ?side4 A5.out).mono ?_); (case side1 => exact kc_ HR0.out); (case side2 => exact HC0.out); (case side3 => exact kc_ HR3.out); (case side4 => exact HC3.out); rintro e w21 ⟨v734, rfl, ho0, hb⟩; refine ⟨_, rfl, ?_⟩; have HO735 := q_ (Kd.R_lower ho0 (below_size (be_ HB.out))); replace HB := q_ (below_step (be_ HB.out) hb); (try clear hb); (try clear ho0)) | ((with_reducible refine gate_dst (N := 22) rfl ?_); refine Kd.R_lit Kd.string _ 9 ?hg (N := 22) ?hd (xs := ([] : List ByteArray)) (inner := []) (ok := fun _ => True) (okp := fun _ => True) ?hr ?hp (fun _ hk => hk) trivial (Below.refl _ _) (Nat.le_refl _) (by simp) ?_; (case hd => rfl); (case hg => rfl); (case hr => first | (go_simp; done) | (go_simp; rfl)); (case hp => exact (Reps.none _ _)); intro v749 w22 ho23 hb hg_ hnew_; clear hg_ hnew_; (first | rw [← Ny748.out] at ho23 | (simp only [Int.reduceToNat] at ho23; rw [← Ny748.out] at ho23)); have HO750 := q_ (Kd.R_lower (Kd.R_new' ho23 (Kd.R_lt (kr_ HO735.out))) (below_size (be_ HB.out))); replace HO735 := q_ (Kd.R_elder' (kr_ HO735.out) (Kd.R_base ho23) hb); replace HB := q_ (below_step (be_ HB.out) hb); clear hb ho23))
    go_ret2
    exact ⟨_, rf_, by (with_reducible repeat (first | apply Kd.R_alloc | apply Kd.R_drewN | apply Kd.R_drew)); exact Kd.R_mono HO750.out (fun _ hk => trivial), be_ HB.out⟩

end Go.Proofs.Ythkaifddpjjmaaa.P
