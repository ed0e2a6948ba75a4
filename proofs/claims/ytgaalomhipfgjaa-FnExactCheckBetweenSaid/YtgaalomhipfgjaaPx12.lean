-- Written by wip/xp/xp.py over the kit's print; Lean checks it.
import Derived.Test.YtgaalomhipfgjaaPx0
import Derived.Test.YtgaalomhipfgjaaPx11
namespace Go.Proofs.Ytgaalomhipfgjaa.P
open Go.RowKit Go.Proofs.YtgaalomhipfgjaaW.PrintWords Go.Proofs.YtgaalomhipfgjaaW.PrintLast Go.Proofs.YtgaalomhipfgjaaW.PrintMore
attribute [local go_sem] max2_int min2_int max_two min_two max_three min_three max_four min_four   -- for this text's walks alone
set_option linter.unusedVariables false
set_option linter.unusedSimpArgs false

/-! ###  laws_eqItemS: function 78 -/
def laws_eqItemS.l0 : Nat → List (S63) → List (S63) → Int → Option (Bool)
  | 0, _, _, _ => none
  | k + 1, x0, x1, x5 => if x5 < (x0.length : Int) then (if 0 ≤ x5 then (if x5 < (x1.length : Int) then ((laws_eqItem.f k ((rd_T63 x0 x5).f0.f0) ((rd_T63 x0 x5).f0.f1) ((rd_T63 x0 x5).f1) ((rd_T63 x1 x5).f0.f0) ((rd_T63 x1 x5).f0.f1) ((rd_T63 x1 x5).f1)).bind fun t607 => (if t607 = true then (laws_eqItemS.l0 k x0 x1 (wrap64 (x5 + 1))) else (some false))) else (none)) else (none)) else (some true)
def laws_eqItemS.f (k : Nat) (l0 : List (S63)) (l1 : List (S63)) : Option (Bool) := if (l0.length : Int) = (l1.length : Int) then (laws_eqItemS.l0 k l0 l1 0) else (some false)
def laws_eqItemS.T6 : Bool × List (List Nat × List Nat) := (true, [([], []), ([], []), ([0, 1], [0, 1]), ([2], [2]), ([], []), ([], []), ([4, 5], [4, 5]), ([6], [6]), ([3, 7], [3, 7]), ([8], [8])])
def laws_eqItemS.B6 : List Nat := [0, 0, 3, 7, 0, 0, 48, 112, 255, 511]
theorem laws_eqItemS.tab6 : rtab .any (opsOf Try.f78 6) = laws_eqItemS.T6 := by kernel_rfl
theorem laws_eqItemS.bits6 : waitsOk laws_eqItemS.T6.2 laws_eqItemS.B6 = true := by kernel_rfl
set_option maxHeartbeats 8000000 in
set_option maxRecDepth 100000 in
theorem laws_eqItemS.calls (k : Nat) (A0 : Option Addr) (c0 : Nat) (l0 : List (S63)) (A1 : Option Addr) (c1 : Nat) (l1 : List (S63)) (r : Bool) (w : World) (hr0 : Kd.C k63 w A0 l0.length l0) (hc0 : l0.length ≤ c0) (hr1 : Kd.C k63 w A1 l1.length l1) (hc1 : l1.length ≤ c1) (h : laws_eqItemS.f k l0 l1 = some r) :
  Calls Try.prog 78 #[.slice A0 l0.length c0, .slice A1 l1.length c1] w fun e w' => e = .returned (.bool r) ∧ Below w.heap.size w w' := by
  have hu63 := Try.underlying63
  have HR0 := Aside0.mk hr0
  have HC0 := Aside0.mk hc0
  clear hr0 hc0
  have HR1 := Aside0.mk hr1
  have HC1 := Aside0.mk hc1
  clear hr1 hc1
  have HB := q_ (Below.refl w.heap.size w)
  have H : (if (l0.length : Int) = (l1.length : Int) then (laws_eqItemS.l0 k l0 l1 0) else (some false)) = some r := h
  clear h
  by_cases c3 : (l0.length : Int) = (l1.length : Int)
  · rw [if_pos c3] at H
    have c3b0 : ((l0.length : Int) == (l1.length : Int)) = true := beq_iff_eq.mpr c3
    have c3b1 : ((l0.length : Int) != (l1.length : Int)) = false := bne_eq_false_iff_eq.mpr c3
    have c3b2 : (l0.length == l1.length) = true := by first | simpa using c3 | (simp at c3 ⊢; omega)
    clear c3
    have H' := Aside0.mk H
    clear H
    go_enter Try.func78, Try.ntmps78
    go_wp2
    go_loopg [5] k (fun kq v5 w' => ∃ (x5_1 : Int), v5 = .int .i64 x5_1 ∧ Aside0 (laws_eqItemS.l0 kq l0 l1 x5_1 = some r) ∧ Aside0 (kq ≤ k) ∧ Aside0 (Below w.heap.size w w'))
    case atStart => exact ⟨(0), rs_, H', ⟨Nat.le_refl _⟩, ⟨be_ HB.out⟩⟩
    case round =>
     clear H'
     try clear c1
     try clear p2
     try clear c3
     try clear c3b0
     try clear c3b1
     try clear c3b2
     obtain ⟨x5_1, rfl, HA, HK1, HB⟩ := hrel
     cases gk with
     | zero => exact absurd HA.out (by simp [laws_eqItemS.l0])
     | succ k1 =>
      have H := HA.out
      clear HA
      simp only [laws_eqItemS.l0] at H
      by_cases c4 : x5_1 < (l0.length : Int)
      rotate_left
      · rw [if_neg c4] at H
        have c4b0 : decide (x5_1 < (l0.length : Int)) = false := decide_eq_false c4
        clear c4
        obtain rfl := Option.some.inj H
        go_wp2
        go_ret
        exact ⟨rf_, be_ HB.out⟩
      rw [if_pos c4] at H
      have c4b0 : decide (x5_1 < (l0.length : Int)) = true := decide_eq_true c4
      clear c4
      by_cases c5 : 0 ≤ x5_1
      rotate_left
      · rw [if_neg c5] at H; exact absurd H (by simp)
      rw [if_pos c5] at H
      have c5b0 : decide (0 ≤ x5_1) = true := decide_eq_true c5
      clear c5
      by_cases c6 : x5_1 < (l1.length : Int)
      rotate_left
      · rw [if_neg c6] at H; exact absurd H (by simp)
      rw [if_pos c6] at H
      have c6b0 : decide (x5_1 < (l1.length : Int)) = true := decide_eq_true c6
      clear c6
      replace H := Option.bind_eq_some_iff.mp H
      obtain ⟨t607, A70, H⟩ := H
      have A7 := Aside0.mk A70
      clear A70
      by_cases c8 : t607 = true
      rotate_left
      · replace c8 := Bool.eq_false_iff.mpr c8
        subst c8
        rw [if_neg (show ¬ (false = true) by decide)] at H
        obtain rfl := Option.some.inj H
        try go_wp2
        replace HB := q_ (below_drew1 HB.out)
        have p605 : 0 ≤ (x5_1 : Int) := od_
        have q605 : x5_1 < (l0.length : Int) := od_
        obtain ⟨ad605, A605_2, c605_2, e605, hx605_0, hx605_1, hx605_2, hl605_2, hi605_2⟩ := at_T63 HR0.out x5_1 p605 q605
        have hw605_2 := hx605_2
        have hw605_1 := hx605_1
        have hw605_0 := hx605_0
        cases e605
        replace hx605_0 := (HB.out.cell (World.block_lt_of_cell? w _ hx605_0)).trans hx605_0
        replace hx605_1 := (HB.out.cell (World.block_lt_of_cell? w _ hx605_1)).trans hx605_1
        replace hx605_2 := (HB.out.cell (World.block_lt_of_cell? w _ hx605_2)).trans hx605_2
        have HR605_2 := Aside0.mk hi605_2
        have HC605_2 := Aside0.mk hl605_2
        clear hi605_2 hl605_2
        replace p605 := eq_true p605
        replace q605 := eq_true q605
        have p606 : 0 ≤ (x5_1 : Int) := od_
        have q606 : x5_1 < (l1.length : Int) := od_
        obtain ⟨ad606, A606_2, c606_2, e606, hx606_0, hx606_1, hx606_2, hl606_2, hi606_2⟩ := at_T63 HR1.out x5_1 p606 q606
        have hw606_2 := hx606_2
        have hw606_1 := hx606_1
        have hw606_0 := hx606_0
        cases e606
        replace hx606_0 := (HB.out.cell (World.block_lt_of_cell? w _ hx606_0)).trans hx606_0
        replace hx606_1 := (HB.out.cell (World.block_lt_of_cell? w _ hx606_1)).trans hx606_1
        replace hx606_2 := (HB.out.cell (World.block_lt_of_cell? w _ hx606_2)).trans hx606_2
        have HR606_2 := Aside0.mk hi606_2
        have HC606_2 := Aside0.mk hl606_2
        clear hi606_2 hl606_2
        replace p606 := eq_true p606
        replace q606 := eq_true q606
        refine start_ (n := 10) (S := fun w' => w'.cell? (ad605.add ((x5_1).toNat * 3)) = some (.string ((rd_T63 l0 x5_1).f0.f0)) ∧ w'.cell? ⟨(ad605.add ((x5_1).toNat * 3)).block, (ad605.add ((x5_1).toNat * 3)).off + 1, none⟩ = some (.string ((rd_T63 l0 x5_1).f0.f1)) ∧ w'.cell? ⟨(ad605.add ((x5_1).toNat * 3)).block, (ad605.add ((x5_1).toNat * 3)).off + 2, none⟩ = some (.slice A605_2 ((rd_T63 l0 x5_1).f1).length c605_2) ∧ w'.cell? (ad606.add ((x5_1).toNat * 3)) = some (.string ((rd_T63 l1 x5_1).f0.f0)) ∧ w'.cell? ⟨(ad606.add ((x5_1).toNat * 3)).block, (ad606.add ((x5_1).toNat * 3)).off + 1, none⟩ = some (.string ((rd_T63 l1 x5_1).f0.f1)) ∧ w'.cell? ⟨(ad606.add ((x5_1).toNat * 3)).block, (ad606.add ((x5_1).toNat * 3)).off + 2, none⟩ = some (.slice A606_2 ((rd_T63 l1 x5_1).f1).length c606_2)) (ds := []) (bq_ 0 10) (by kernel_rfl) rfl rfl ⟨((HB.out.cell (World.block_lt_of_cell? w _ hw605_0)).trans hw605_0), ((HB.out.cell (World.block_lt_of_cell? w _ hw605_1)).trans hw605_1), ((HB.out.cell (World.block_lt_of_cell? w _ hw605_2)).trans hw605_2), ((HB.out.cell (World.block_lt_of_cell? w _ hw606_0)).trans hw606_0), ((HB.out.cell (World.block_lt_of_cell? w _ hw606_1)).trans hw606_1), ((HB.out.cell (World.block_lt_of_cell? w _ hw606_2)).trans hw606_2)⟩ (fun hHeld => ?_); refine with_tabW laws_eqItemS.tab6 laws_eqItemS.bits6 (fun HT_ HW_ => ?_)
        generalize wr.drew = w11 at HB HR605_2 HR606_2 hx605_0 hx605_1 hx605_2 hx606_0 hx606_1 hx606_2 hHeld ⊢
        refine pu_ 0 (some 17) (bq_ 1 9) HT_ ?_
        refine pu_ 1 (some 18) (bq_ 2 8) HT_ ?_
        refine pu_ 2 (some 19) (bq_ 3 7) HT_ ?_
        refine pu_ 4 (some 21) (br_ [3, 1, 1, 5]) HT_ ?_
        refine pu_ 5 (some 22) (br_ [3, 1, 2, 4]) HT_ ?_
        refine pu_ 6 (some 23) (br_ [3, 1, 3, 3]) HT_ ?_
        refine take_ (i := 3) (N := some 20) (v := ?_) (a' := ?_) (bq_ 7 3) rfl rfl (take_ofW HT_.out HW_.out (by kernel_rfl)) (fun _ _ _ h => h) (Or.inl ⟨by rfl, ?_⟩) hHeld ?_ ?_
        rotate_left
        · rintro w' ⟨s0, s1, s2, s3, s4, s5⟩
          go_simp
          with_reducible rfl
        rotate_left
        · simp only [Act.put, sa_, sz_, ss_, i64_w, i32_w]; rfl
        refine take_ (i := 7) (N := some 24) (v := ?_) (a' := ?_) (bq_ 8 2) rfl rfl (take_ofW HT_.out HW_.out (by kernel_rfl)) (fun _ _ _ h => h) (Or.inl ⟨by rfl, ?_⟩) hHeld ?_ ?_
        rotate_left
        · rintro w' ⟨s0, s1, s2, s3, s4, s5⟩
          go_simp
          with_reducible rfl
        rotate_left
        · simp only [Act.put, sa_, sz_, ss_, i64_w, i32_w]; rfl
        refine on_ 8 (some 25) (bq_ 9 1) HT_ (fun K hK => ?_)
        refine goes_ Try.func114 (by kernel_rfl) rfl #[.agg #[.string ((rd_T63 l0 x5_1).f0.f0), .string ((rd_T63 l0 x5_1).f0.f1), .slice A605_2 ((rd_T63 l0 x5_1).f1).length c605_2], .agg #[.string ((rd_T63 l1 x5_1).f0.f0), .string ((rd_T63 l1 x5_1).f0.f1), .slice A606_2 ((rd_T63 l1 x5_1).f1).length c606_2]] (by rfl) rfl rfl al_ ?_
        with_reducible refine (laws_eqItem.calls k1 ((rd_T63 l0 x5_1).f0.f0) ((rd_T63 l0 x5_1).f0.f1) _ _ ((rd_T63 l0 x5_1).f1) ((rd_T63 l1 x5_1).f0.f0) ((rd_T63 l1 x5_1).f0.f1) _ _ ((rd_T63 l1 x5_1).f1) false _ ?side1 ?side2 ?side3 ?side4 A7.out).mono ?_
        (case side1 => exact kc_ (Kd.C_below HR605_2.out HB.out))
        (case side2 => exact HC605_2.out)
        (case side3 => exact kc_ (Kd.C_below HR606_2.out HB.out))
        (case side4 => exact HC606_2.out)
        rintro e w12 ⟨rfl, hb⟩
        refine ⟨_, rfl, ?_⟩
        replace HB := q_ (below_step (be_ HB.out) hb)
        (try clear hb)
        (try clear hb2)
        (try clear hk)
        (try clear hi)
        refine hK.out _ _ ⟨((HB.out.cell (World.block_lt_of_cell? w _ hw605_0)).trans hw605_0), ((HB.out.cell (World.block_lt_of_cell? w _ hw605_1)).trans hw605_1), ((HB.out.cell (World.block_lt_of_cell? w _ hw605_2)).trans hw605_2), ((HB.out.cell (World.block_lt_of_cell? w _ hw606_0)).trans hw606_0), ((HB.out.cell (World.block_lt_of_cell? w _ hw606_1)).trans hw606_1), ((HB.out.cell (World.block_lt_of_cell? w _ hw606_2)).trans hw606_2)⟩ (fun hHeld => ?_)
        clear hK K
        refine nm_ ?_
        refine pu_ 9 (some 26) (bq_ 10 0) HT_ ?_
        refine done_ (done_of HT_.out (by kernel_rfl)) ?_
        try go_wp2
        go_ret
        exact ⟨rf_, be_ HB.out⟩
      subst c8
      rw [if_pos rfl] at H
      have H' := Aside0.mk H
      clear H
      try go_wp2
      replace HB := q_ (below_drew1 HB.out)
      have p605 : 0 ≤ (x5_1 : Int) := od_
      have q605 : x5_1 < (l0.length : Int) := od_
      obtain ⟨ad605, A605_2, c605_2, e605, hx605_0, hx605_1, hx605_2, hl605_2, hi605_2⟩ := at_T63 HR0.out x5_1 p605 q605
      have hw605_2 := hx605_2
      have hw605_1 := hx605_1
      have hw605_0 := hx605_0
      cases e605
      replace hx605_0 := (HB.out.cell (World.block_lt_of_cell? w _ hx605_0)).trans hx605_0
      replace hx605_1 := (HB.out.cell (World.block_lt_of_cell? w _ hx605_1)).trans hx605_1
      replace hx605_2 := (HB.out.cell (World.block_lt_of_cell? w _ hx605_2)).trans hx605_2
      have HR605_2 := Aside0.mk hi605_2
      have HC605_2 := Aside0.mk hl605_2
      clear hi605_2 hl605_2
      replace p605 := eq_true p605
      replace q605 := eq_true q605
      have p606 : 0 ≤ (x5_1 : Int) := od_
      have q606 : x5_1 < (l1.length : Int) := od_
      obtain ⟨ad606, A606_2, c606_2, e606, hx606_0, hx606_1, hx606_2, hl606_2, hi606_2⟩ := at_T63 HR1.out x5_1 p606 q606
      have hw606_2 := hx606_2
      have hw606_1 := hx606_1
      have hw606_0 := hx606_0
      cases e606
      replace hx606_0 := (HB.out.cell (World.block_lt_of_cell? w _ hx606_0)).trans hx606_0
      replace hx606_1 := (HB.out.cell (World.block_lt_of_cell? w _ hx606_1)).trans hx606_1
      replace hx606_2 := (HB.out.cell (World.block_lt_of_cell? w _ hx606_2)).trans hx606_2
      have HR606_2 := Aside0.mk hi606_2
      have HC606_2 := Aside0.mk hl606_2
      clear hi606_2 hl606_2
      replace p606 := eq_true p606
      replace q606 := eq_true q606
      refine start_ (n := 10) (S := fun w' => w'.cell? (ad605.add ((x5_1).toNat * 3)) = some (.string ((rd_T63 l0 x5_1).f0.f0)) ∧ w'.cell? ⟨(ad605.add ((x5_1).toNat * 3)).block, (ad605.add ((x5_1).toNat * 3)).off + 1, none⟩ = some (.string ((rd_T63 l0 x5_1).f0.f1)) ∧ w'.cell? ⟨(ad605.add ((x5_1).toNat * 3)).block, (ad605.add ((x5_1).toNat * 3)).off + 2, none⟩ = some (.slice A605_2 ((rd_T63 l0 x5_1).f1).length c605_2) ∧ w'.cell? (ad606.add ((x5_1).toNat * 3)) = some (.string ((rd_T63 l1 x5_1).f0.f0)) ∧ w'.cell? ⟨(ad606.add ((x5_1).toNat * 3)).block, (ad606.add ((x5_1).toNat * 3)).off + 1, none⟩ = some (.string ((rd_T63 l1 x5_1).f0.f1)) ∧ w'.cell? ⟨(ad606.add ((x5_1).toNat * 3)).block, (ad606.add ((x5_1).toNat * 3)).off + 2, none⟩ = some (.slice A606_2 ((rd_T63 l1 x5_1).f1).length c606_2)) (ds := []) (bq_ 0 10) (by kernel_rfl) rfl rfl ⟨((HB.out.cell (World.block_lt_of_cell? w _ hw605_0)).trans hw605_0), ((HB.out.cell (World.block_lt_of_cell? w _ hw605_1)).trans hw605_1), ((HB.out.cell (World.block_lt_of_cell? w _ hw605_2)).trans hw605_2), ((HB.out.cell (World.block_lt_of_cell? w _ hw606_0)).trans hw606_0), ((HB.out.cell (World.block_lt_of_cell? w _ hw606_1)).trans hw606_1), ((HB.out.cell (World.block_lt_of_cell? w _ hw606_2)).trans hw606_2)⟩ (fun hHeld => ?_); refine with_tabW laws_eqItemS.tab6 laws_eqItemS.bits6 (fun HT_ HW_ => ?_)
      generalize wr.drew = w9 at HB HR605_2 HR606_2 hx605_0 hx605_1 hx605_2 hx606_0 hx606_1 hx606_2 hHeld ⊢
      refine pu_ 0 (some 17) (bq_ 1 9) HT_ ?_
      refine pu_ 1 (some 18) (bq_ 2 8) HT_ ?_
      refine pu_ 2 (some 19) (bq_ 3 7) HT_ ?_
      refine pu_ 4 (some 21) (br_ [3, 1, 1, 5]) HT_ ?_
      refine pu_ 5 (some 22) (br_ [3, 1, 2, 4]) HT_ ?_
      refine pu_ 6 (some 23) (br_ [3, 1, 3, 3]) HT_ ?_
      refine take_ (i := 3) (N := some 20) (v := ?_) (a' := ?_) (bq_ 7 3) rfl rfl (take_ofW HT_.out HW_.out (by kernel_rfl)) (fun _ _ _ h => h) (Or.inl ⟨by rfl, ?_⟩) hHeld ?_ ?_
      rotate_left
      · rintro w' ⟨s0, s1, s2, s3, s4, s5⟩
        go_simp
        with_reducible rfl
      rotate_left
      · simp only [Act.put, sa_, sz_, ss_, i64_w, i32_w]; rfl
      refine take_ (i := 7) (N := some 24) (v := ?_) (a' := ?_) (bq_ 8 2) rfl rfl (take_ofW HT_.out HW_.out (by kernel_rfl)) (fun _ _ _ h => h) (Or.inl ⟨by rfl, ?_⟩) hHeld ?_ ?_
      rotate_left
      · rintro w' ⟨s0, s1, s2, s3, s4, s5⟩
        go_simp
        with_reducible rfl
      rotate_left
      · simp only [Act.put, sa_, sz_, ss_, i64_w, i32_w]; rfl
      refine on_ 8 (some 25) (bq_ 9 1) HT_ (fun K hK => ?_)
      refine goes_ Try.func114 (by kernel_rfl) rfl #[.agg #[.string ((rd_T63 l0 x5_1).f0.f0), .string ((rd_T63 l0 x5_1).f0.f1), .slice A605_2 ((rd_T63 l0 x5_1).f1).length c605_2], .agg #[.string ((rd_T63 l1 x5_1).f0.f0), .string ((rd_T63 l1 x5_1).f0.f1), .slice A606_2 ((rd_T63 l1 x5_1).f1).length c606_2]] (by rfl) rfl rfl al_ ?_
      with_reducible refine (laws_eqItem.calls k1 ((rd_T63 l0 x5_1).f0.f0) ((rd_T63 l0 x5_1).f0.f1) _ _ ((rd_T63 l0 x5_1).f1) ((rd_T63 l1 x5_1).f0.f0) ((rd_T63 l1 x5_1).f0.f1) _ _ ((rd_T63 l1 x5_1).f1) true _ ?side1 ?side2 ?side3 ?side4 A7.out).mono ?_
      (case side1 => exact kc_ (Kd.C_below HR605_2.out HB.out))
      (case side2 => exact HC605_2.out)
      (case side3 => exact kc_ (Kd.C_below HR606_2.out HB.out))
      (case side4 => exact HC606_2.out)
      rintro e w10 ⟨rfl, hb⟩
      refine ⟨_, rfl, ?_⟩
      replace HB := q_ (below_step (be_ HB.out) hb)
      (try clear hb)
      (try clear hb2)
      (try clear hk)
      (try clear hi)
      refine hK.out _ _ ⟨((HB.out.cell (World.block_lt_of_cell? w _ hw605_0)).trans hw605_0), ((HB.out.cell (World.block_lt_of_cell? w _ hw605_1)).trans hw605_1), ((HB.out.cell (World.block_lt_of_cell? w _ hw605_2)).trans hw605_2), ((HB.out.cell (World.block_lt_of_cell? w _ hw606_0)).trans hw606_0), ((HB.out.cell (World.block_lt_of_cell? w _ hw606_1)).trans hw606_1), ((HB.out.cell (World.block_lt_of_cell? w _ hw606_2)).trans hw606_2)⟩ (fun hHeld => ?_)
      clear hK K
      refine nm_ ?_
      refine pu_ 9 (some 26) (bq_ 10 0) HT_ ?_
      refine done_ (done_of HT_.out (by kernel_rfl)) ?_
      try go_wp2
      go_roundg k1
      case measure => have := HK1.out; omega
      case rel => exact ⟨(wrap64 (x5_1 + 1)), rs_, H', ⟨by have := HK1.out; omega⟩, ⟨be_ HB.out⟩⟩
  · rw [if_neg c3] at H
    have c3b0 : ((l0.length : Int) == (l1.length : Int)) = false := beq_eq_false_iff_ne.mpr c3
    have c3b1 : ((l0.length : Int) != (l1.length : Int)) = true := bne_iff_ne.mpr c3
    have c3b2 : (l0.length == l1.length) = false := by first | simpa using c3 | (simp at c3 ⊢; omega)
    obtain rfl := Option.some.inj H
    go_enter Try.func78, Try.ntmps78
    go_wp2
    go_ret
    exact ⟨rf_, be_ HB.out⟩

/-! ###  laws_eqProof: function 22 -/
def laws_eqProof.f (k : Nat) (a0_0 : Int) (a0_1 : Int) (l0_2 : List (S63)) (a1_0 : Int) (a1_1 : Int) (l1_2 : List (S63)) : Option (Bool) := if a0_0 = a1_0 then (if a0_1 = a1_1 then ((laws_eqItemS.f k l0_2 l1_2).bind fun t610 => (if t610 = true then (some true) else (some false))) else (some false)) else (some false)
set_option maxHeartbeats 8000000 in
set_option maxRecDepth 100000 in
theorem laws_eqProof.calls (k : Nat) (a0_0 : Int) (a0_1 : Int) (A0_2 : Option Addr) (c0_2 : Nat) (l0_2 : List (S63)) (a1_0 : Int) (a1_1 : Int) (A1_2 : Option Addr) (c1_2 : Nat) (l1_2 : List (S63)) (r : Bool) (w : World) (hr0_2 : Kd.C k63 w A0_2 l0_2.length l0_2) (hc0_2 : l0_2.length ≤ c0_2) (hr1_2 : Kd.C k63 w A1_2 l1_2.length l1_2) (hc1_2 : l1_2.length ≤ c1_2) (h : laws_eqProof.f k a0_0 a0_1 l0_2 a1_0 a1_1 l1_2 = some r) :
  Calls Try.prog 22 #[.agg #[.int .i64 a0_0, .int .i64 a0_1, .slice A0_2 l0_2.length c0_2], .agg #[.int .i64 a1_0, .int .i64 a1_1, .slice A1_2 l1_2.length c1_2]] w fun e w' => e = .returned (.bool r) ∧ Below w.heap.size w w' := by
  have hu44 := Try.underlying44
  have HR0_2 := Aside0.mk hr0_2
  have HC0_2 := Aside0.mk hc0_2
  clear hr0_2 hc0_2
  have HR1_2 := Aside0.mk hr1_2
  have HC1_2 := Aside0.mk hc1_2
  clear hr1_2 hc1_2
  have HB := q_ (Below.refl w.heap.size w)
  have H : (if a0_0 = a1_0 then (if a0_1 = a1_1 then ((laws_eqItemS.f k l0_2 l1_2).bind fun t610 => (if t610 = true then (some true) else (some false))) else (some false)) else (some false)) = some r := h
  clear h
  by_cases c3 : a0_0 = a1_0
  · rw [if_pos c3] at H
    have c3b0 : (a0_0 == a1_0) = true := beq_iff_eq.mpr c3
    have c3b1 : (a0_0 != a1_0) = false := bne_eq_false_iff_eq.mpr c3
    clear c3
    by_cases c4 : a0_1 = a1_1
    rotate_left
    · rw [if_neg c4] at H
      have c4b0 : (a0_1 == a1_1) = false := beq_eq_false_iff_ne.mpr c4
      have c4b1 : (a0_1 != a1_1) = true := bne_iff_ne.mpr c4
      obtain rfl := Option.some.inj H
      go_enter Try.func22, Try.ntmps22
      go_wp2_with (first | ((with_reducible refine gate_dst (N := 2) rfl ?_); refine box_event rfl (N := 2) rfl (cs := #[.int .i64 a0_0, .int .i64 a0_1, .slice A0_2 l0_2.length c0_2]) (t := 44) hr_ ?_; intro gb608 hg w19 hbox hb; have BK608 := q_ (hbox); have GW608 := q_ ((by rw [hg]; exact (below_size (be_ HB.out)) : w.heap.size ≤ gb608)); have GE608 := q_ ((by rw [hg]; exact (below_size (be_ HB.out)) : w.heap.size ≤ gb608)); replace HB := q_ (below_step (be_ HB.out) hb); clear hb hbox hg) | ((with_reducible refine gate_dst (N := 3) rfl ?_); refine box_event rfl (N := 3) rfl (cs := #[.int .i64 a1_0, .int .i64 a1_1, .slice A1_2 l1_2.length c1_2]) (t := 44) hr_ ?_; intro gb609 hg w20 hbox hb; have BK609 := q_ (hbox); have GW609 := q_ ((by rw [hg]; exact (below_size (bs_ HB.out GE608.out)) : w.heap.size ≤ gb609)); have GE609 := q_ ((by rw [hg]; exact (below_size (bs_ HB.out GE608.out)) : w.heap.size ≤ gb609)); replace HB := q_ (below_step (bs_ HB.out GE608.out) hb); have NB608_609 := q_ ((by rw [hg]; exact Nat.ne_of_lt (blk_lt (g := gb608) (o := .cells #[.int .i64 a0_0, .int .i64 a0_1, .slice A0_2 l0_2.length c0_2] 44 (0, 0)) (bk_ BK608.out)) : gb608 ≠ gb609)); have NB609_608 := q_ ((by rw [hg]; exact Nat.ne_of_gt (blk_lt (g := gb608) (o := .cells #[.int .i64 a0_0, .int .i64 a0_1, .slice A0_2 l0_2.length c0_2] 44 (0, 0)) (bk_ BK608.out)) : gb609 ≠ gb608)); replace BK608 := q_ (bb_ BK608.out hb); clear hb hbox hg; have hnb21 := NB608_609.out; have hnc21 := NB609_608.out; obtain ⟨hcz22_0, hcz22_1, hcz22_2, hfz22_0, hfz22_1, hfz22_2⟩ := bx3_ BK608.out; obtain ⟨hcz23_0, hcz23_1, hcz23_2, hfz23_0, hfz23_1, hfz23_2⟩ := bx3_ BK609.out))
      go_ret
      exact ⟨rf_, b2_ HB.out GE608.out GE609.out⟩
    rw [if_pos c4] at H
    have c4b0 : (a0_1 == a1_1) = true := beq_iff_eq.mpr c4
    have c4b1 : (a0_1 != a1_1) = false := bne_eq_false_iff_eq.mpr c4
    clear c4
    replace H := Option.bind_eq_some_iff.mp H
    obtain ⟨t610, A50, H⟩ := H
    have A5 := Aside0.mk A50
    clear A50
    by_cases c6 : t610 = true
    · subst c6
      rw [if_pos rfl] at H
      obtain rfl := Option.some.inj H
      go_enter Try.func22, Try.ntmps22
      go_wp2_with (first | ((with_reducible refine gate_dst (N := 2) rfl ?_); refine box_event rfl (N := 2) rfl (cs := #[.int .i64 a0_0, .int .i64 a0_1, .slice A0_2 l0_2.length c0_2]) (t := 44) hr_ ?_; intro gb608 hg w7 hbox hb; have BK608 := q_ (hbox); have GW608 := q_ ((by rw [hg]; exact (below_size (be_ HB.out)) : w.heap.size ≤ gb608)); have GE608 := q_ ((by rw [hg]; exact (below_size (be_ HB.out)) : w.heap.size ≤ gb608)); replace HB := q_ (below_step (be_ HB.out) hb); clear hb hbox hg) | ((with_reducible refine gate_dst (N := 3) rfl ?_); refine box_event rfl (N := 3) rfl (cs := #[.int .i64 a1_0, .int .i64 a1_1, .slice A1_2 l1_2.length c1_2]) (t := 44) hr_ ?_; intro gb609 hg w8 hbox hb; have BK609 := q_ (hbox); have GW609 := q_ ((by rw [hg]; exact (below_size (bs_ HB.out GE608.out)) : w.heap.size ≤ gb609)); have GE609 := q_ ((by rw [hg]; exact (below_size (bs_ HB.out GE608.out)) : w.heap.size ≤ gb609)); replace HB := q_ (below_step (bs_ HB.out GE608.out) hb); have NB608_609 := q_ ((by rw [hg]; exact Nat.ne_of_lt (blk_lt (g := gb608) (o := .cells #[.int .i64 a0_0, .int .i64 a0_1, .slice A0_2 l0_2.length c0_2] 44 (0, 0)) (bk_ BK608.out)) : gb608 ≠ gb609)); have NB609_608 := q_ ((by rw [hg]; exact Nat.ne_of_gt (blk_lt (g := gb608) (o := .cells #[.int .i64 a0_0, .int .i64 a0_1, .slice A0_2 l0_2.length c0_2] 44 (0, 0)) (bk_ BK608.out)) : gb609 ≠ gb608)); replace BK608 := q_ (bb_ BK608.out hb); clear hb hbox hg; have hnb9 := NB608_609.out; have hnc9 := NB609_608.out; obtain ⟨hcz10_0, hcz10_1, hcz10_2, hfz10_0, hfz10_1, hfz10_2⟩ := bx3_ BK608.out; obtain ⟨hcz11_0, hcz11_1, hcz11_2, hfz11_0, hfz11_1, hfz11_2⟩ := bx3_ BK609.out) | ((with_reducible refine gate_callee (f := 78) rfl ?_); refine gl_ (some 19) Try.func78 #[.slice A0_2 l0_2.length c0_2, .slice A1_2 l1_2.length c1_2] rfl al_ ?_; (with_reducible refine (laws_eqItemS.calls k _ _ l0_2 _ _ l1_2 true _ ?side1 ?side2 ?side3 ?side4 A5.out).mono ?_); (case side1 => exact kc_ (Kd.C_below HR0_2.out HB.out)); (case side2 => exact HC0_2.out); (case side3 => exact kc_ (Kd.C_below HR1_2.out HB.out)); (case side4 => exact HC1_2.out); rintro e w12 ⟨rfl, hb⟩; refine ⟨_, rfl, ?_⟩; replace BK608 := q_ (bb_ BK608.out hb); replace BK609 := q_ (bb_ BK609.out hb); replace HB := q_ (below_step (b2_ HB.out GE608.out GE609.out) hb); (try clear hb)))
      go_ret
      exact ⟨rf_, b2_ HB.out GE608.out GE609.out⟩
    replace c6 := Bool.eq_false_iff.mpr c6
    subst c6
    rw [if_neg (show ¬ (false = true) by decide)] at H
    obtain rfl := Option.some.inj H
    go_enter Try.func22, Try.ntmps22
    go_wp2_with (first | ((with_reducible refine gate_dst (N := 2) rfl ?_); refine box_event rfl (N := 2) rfl (cs := #[.int .i64 a0_0, .int .i64 a0_1, .slice A0_2 l0_2.length c0_2]) (t := 44) hr_ ?_; intro gb608 hg w13 hbox hb; have BK608 := q_ (hbox); have GW608 := q_ ((by rw [hg]; exact (below_size (be_ HB.out)) : w.heap.size ≤ gb608)); have GE608 := q_ ((by rw [hg]; exact (below_size (be_ HB.out)) : w.heap.size ≤ gb608)); replace HB := q_ (below_step (be_ HB.out) hb); clear hb hbox hg) | ((with_reducible refine gate_dst (N := 3) rfl ?_); refine box_event rfl (N := 3) rfl (cs := #[.int .i64 a1_0, .int .i64 a1_1, .slice A1_2 l1_2.length c1_2]) (t := 44) hr_ ?_; intro gb609 hg w14 hbox hb; have BK609 := q_ (hbox); have GW609 := q_ ((by rw [hg]; exact (below_size (bs_ HB.out GE608.out)) : w.heap.size ≤ gb609)); have GE609 := q_ ((by rw [hg]; exact (below_size (bs_ HB.out GE608.out)) : w.heap.size ≤ gb609)); replace HB := q_ (below_step (bs_ HB.out GE608.out) hb); have NB608_609 := q_ ((by rw [hg]; exact Nat.ne_of_lt (blk_lt (g := gb608) (o := .cells #[.int .i64 a0_0, .int .i64 a0_1, .slice A0_2 l0_2.length c0_2] 44 (0, 0)) (bk_ BK608.out)) : gb608 ≠ gb609)); have NB609_608 := q_ ((by rw [hg]; exact Nat.ne_of_gt (blk_lt (g := gb608) (o := .cells #[.int .i64 a0_0, .int .i64 a0_1, .slice A0_2 l0_2.length c0_2] 44 (0, 0)) (bk_ BK608.out)) : gb609 ≠ gb608)); replace BK608 := q_ (bb_ BK608.out hb); clear hb hbox hg; have hnb15 := NB608_609.out; have hnc15 := NB609_608.out; obtain ⟨hcz16_0, hcz16_1, hcz16_2, hfz16_0, hfz16_1, hfz16_2⟩ := bx3_ BK608.out; obtain ⟨hcz17_0, hcz17_1, hcz17_2, hfz17_0, hfz17_1, hfz17_2⟩ := bx3_ BK609.out) | ((with_reducible refine gate_callee (f := 78) rfl ?_); refine gl_ (some 19) Try.func78 #[.slice A0_2 l0_2.length c0_2, .slice A1_2 l1_2.length c1_2] rfl al_ ?_; (with_reducible refine (laws_eqItemS.calls k _ _ l0_2 _ _ l1_2 false _ ?side1 ?side2 ?side3 ?side4 A5.out).mono ?_); (case side1 => exact kc_ (Kd.C_below HR0_2.out HB.out)); (case side2 => exact HC0_2.out); (case side3 => exact kc_ (Kd.C_below HR1_2.out HB.out)); (case side4 => exact HC1_2.out); rintro e w18 ⟨rfl, hb⟩; refine ⟨_, rfl, ?_⟩; replace BK608 := q_ (bb_ BK608.out hb); replace BK609 := q_ (bb_ BK609.out hb); replace HB := q_ (below_step (b2_ HB.out GE608.out GE609.out) hb); (try clear hb)))
    go_ret
    exact ⟨rf_, b2_ HB.out GE608.out GE609.out⟩
  · rw [if_neg c3] at H
    have c3b0 : (a0_0 == a1_0) = false := beq_eq_false_iff_ne.mpr c3
    have c3b1 : (a0_0 != a1_0) = true := bne_iff_ne.mpr c3
    obtain rfl := Option.some.inj H
    go_enter Try.func22, Try.ntmps22
    go_wp2_with (first | ((with_reducible refine gate_dst (N := 2) rfl ?_); refine box_event rfl (N := 2) rfl (cs := #[.int .i64 a0_0, .int .i64 a0_1, .slice A0_2 l0_2.length c0_2]) (t := 44) hr_ ?_; intro gb608 hg w24 hbox hb; have BK608 := q_ (hbox); have GW608 := q_ ((by rw [hg]; exact (below_size (be_ HB.out)) : w.heap.size ≤ gb608)); have GE608 := q_ ((by rw [hg]; exact (below_size (be_ HB.out)) : w.heap.size ≤ gb608)); replace HB := q_ (below_step (be_ HB.out) hb); clear hb hbox hg) | ((with_reducible refine gate_dst (N := 3) rfl ?_); refine box_event rfl (N := 3) rfl (cs := #[.int .i64 a1_0, .int .i64 a1_1, .slice A1_2 l1_2.length c1_2]) (t := 44) hr_ ?_; intro gb609 hg w25 hbox hb; have BK609 := q_ (hbox); have GW609 := q_ ((by rw [hg]; exact (below_size (bs_ HB.out GE608.out)) : w.heap.size ≤ gb609)); have GE609 := q_ ((by rw [hg]; exact (below_size (bs_ HB.out GE608.out)) : w.heap.size ≤ gb609)); replace HB := q_ (below_step (bs_ HB.out GE608.out) hb); have NB608_609 := q_ ((by rw [hg]; exact Nat.ne_of_lt (blk_lt (g := gb608) (o := .cells #[.int .i64 a0_0, .int .i64 a0_1, .slice A0_2 l0_2.length c0_2] 44 (0, 0)) (bk_ BK608.out)) : gb608 ≠ gb609)); have NB609_608 := q_ ((by rw [hg]; exact Nat.ne_of_gt (blk_lt (g := gb608) (o := .cells #[.int .i64 a0_0, .int .i64 a0_1, .slice A0_2 l0_2.length c0_2] 44 (0, 0)) (bk_ BK608.out)) : gb609 ≠ gb608)); replace BK608 := q_ (bb_ BK608.out hb); clear hb hbox hg; have hnb26 := NB608_609.out; have hnc26 := NB609_608.out; obtain ⟨hcz27_0, hcz27_1, hcz27_2, hfz27_0, hfz27_1, hfz27_2⟩ := bx3_ BK608.out; obtain ⟨hcz28_0, hcz28_1, hcz28_2, hfz28_0, hfz28_1, hfz28_2⟩ := bx3_ BK609.out))
    go_ret
    exact ⟨rf_, b2_ HB.out GE608.out GE609.out⟩

/-! ###  laws_markText: function 80 -/
def laws_markText.l0 : Nat → Int → ByteArray → Option (ByteArray)
  | 0, _, _ => none
  | k + 1, x0, x3 => if x0 > 0 then ((some (([(wrap64 (48 + (Int.tmod x0 10))) % 256] : List Int) : List Int)).bind fun y611 => (if (strOfNums y611).size + x3.size ≤ 9223372036854775807 then (laws_markText.l0 k (wrap64 (Int.tdiv x0 10)) ((strOfNums y611) ++ x3)) else (none))) else (if 1 + x3.size ≤ 9223372036854775807 then (some ((⟨#[109]⟩ : ByteArray) ++ x3)) else (none))
def laws_markText.f (k : Nat) (a0 : Int) : Option (ByteArray) := if a0 ≤ 0 then (some (⟨#[109, 48]⟩ : ByteArray)) else (laws_markText.l0 k a0 (⟨#[]⟩ : ByteArray))
set_option maxHeartbeats 8000000 in
set_option maxRecDepth 100000 in
theorem laws_markText.calls (k : Nat) (a0 : Int) (r : ByteArray) (w : World) (h : laws_markText.f k a0 = some r) :
  Calls Try.prog 80 #[.int .i64 a0] w fun e w' => e = .returned (.string r) ∧ Below w.heap.size w w' := by
  have HB := q_ (Below.refl w.heap.size w)
  have H : (if a0 ≤ 0 then (some (⟨#[109, 48]⟩ : ByteArray)) else (laws_markText.l0 k a0 (⟨#[]⟩ : ByteArray))) = some r := h
  clear h
  by_cases c2 : a0 ≤ 0
  · rw [if_pos c2] at H
    have c2b0 : decide (a0 ≤ 0) = true := decide_eq_true c2
    clear c2
    obtain rfl := Option.some.inj H
    go_enter Try.func80, Try.ntmps80
    go_wp2
    go_ret
    exact ⟨rf_, be_ HB.out⟩
  · rw [if_neg c2] at H
    have c2b0 : decide (a0 ≤ 0) = false := decide_eq_false c2
    clear c2
    have H' := Aside0.mk H
    clear H
    go_enter Try.func80, Try.ntmps80
    go_wp2
    go_loopg [0, 3] k (fun kq v0 v3 w' => ∃ (x0_1 : Int) (x3_1 : ByteArray), v0 = .int .i64 x0_1 ∧ v3 = .string x3_1 ∧ Aside0 (laws_markText.l0 kq x0_1 x3_1 = some r) ∧ Aside0 (kq ≤ k) ∧ Aside0 (Below w.heap.size w w'))
    case atStart => exact ⟨(a0), ((⟨#[]⟩ : ByteArray)), rs_, rs_, H', ⟨Nat.le_refl _⟩, ⟨be_ HB.out⟩⟩
    case round =>
     clear H'
     try clear c2
     try clear c2b0
     try clear p2
     obtain ⟨x0_1, x3_1, rfl, rfl, HA, HK1, HB⟩ := hrel
     cases gk with
     | zero => exact absurd HA.out (by simp [laws_markText.l0])
     | succ k1 =>
      have H := HA.out
      clear HA
      simp only [laws_markText.l0] at H
      by_cases c3 : x0_1 > 0
      · rw [if_pos c3] at H
        have c3b0 : decide (0 < x0_1) = true := decide_eq_true c3
        clear c3
        obtain ⟨y611, hy611⟩ : ∃ y_ : List Int, y_ = (([(wrap64 (48 + (Int.tmod x0_1 10))) % 256] : List Int)) := ⟨_, rfl⟩
        replace H : (if (strOfNums y611).size + x3_1.size ≤ 9223372036854775807 then (laws_markText.l0 k1 (wrap64 (Int.tdiv x0_1 10)) ((strOfNums y611) ++ x3_1)) else (none)) = some r := ry_ hy611 H
        have Ny611 := Aside0.mk hy611
        clear hy611
        by_cases c4 : (strOfNums y611).size + x3_1.size ≤ 9223372036854775807
        rotate_left
        · rw [if_neg c4] at H; exact absurd H (by simp)
        rw [if_pos c4] at H
        have c4b0 := eq_true c4
        have c4b1 : decide ((strOfNums y611).size + x3_1.size ≤ 9223372036854775807) = true := decide_eq_true c4
        try have c4b2 : (9223372036854775807 < (strOfNums y611).size + x3_1.size) = False := eq_false (Nat.not_lt.2 c4)
        have H' := Aside0.mk H
        clear H
        go_wp2_with (first | ((with_reducible refine gate_dst (N := 12) rfl ?_); refine Kd.R_lit (Kd.int .u8) _ 5 ?hg (N := 12) ?hd (xs := ([(wrap64 (48 + (Int.tmod x0_1 10))) % 256] : List Int)) (inner := [.int .u8 ((wrap64 (48 + (Int.tmod x0_1 10))) % 256)]) (ok := fun _ => True) (okp := fun _ => True) ?hr ?hp (fun _ hk => hk) trivial (Below.refl _ _) (Nat.le_refl _) (by simp) ?_; (case hd => rfl); (case hg => rfl); (case hr => first | (go_simp; done) | (go_simp; rfl)); (case hp => exact (Reps.one (show Kd.M (Kd.int .u8) _ _ _ ((wrap64 (48 + (Int.tmod x0_1 10))) % 256) [.int .u8 ((wrap64 (48 + (Int.tmod x0_1 10))) % 256)] from rfl) (Reps.none _ _))); intro v612 w5 ho6 hb hg_ hnew_; clear hg_ hnew_; (first | rw [← Ny611.out] at ho6 | (simp only [Int.reduceToNat] at ho6; rw [← Ny611.out] at ho6)); have HO613 := q_ (Kd.R_lower ho6 (below_size (be_ HB.out))); replace HB := q_ (below_step (be_ HB.out) hb); clear hb ho6; have hcv7 := own_string (P := Try.prog) Try.underlying22 Try.underlying5 Try.underlying9 (Kd.own_of_R HO613.out)))
        go_roundg k1
        case measure => have := HK1.out; omega
        case rel => exact ⟨(wrap64 (Int.tdiv x0_1 10)), ((strOfNums y611) ++ x3_1), rs_, rs_, H', ⟨by have := HK1.out; omega⟩, ⟨be_ HB.out⟩⟩
      · rw [if_neg c3] at H
        have c3b0 : decide (0 < x0_1) = false := decide_eq_false c3
        clear c3
        by_cases c8 : 1 + x3_1.size ≤ 9223372036854775807
        rotate_left
        · rw [if_neg c8] at H; exact absurd H (by simp)
        rw [if_pos c8] at H
        have c8b0 := eq_true c8
        have c8b1 : decide (1 + x3_1.size ≤ 9223372036854775807) = true := decide_eq_true c8
        try have c8b2 : (9223372036854775807 < 1 + x3_1.size) = False := eq_false (Nat.not_lt.2 c8)
        obtain rfl := Option.some.inj H
        go_wp2
        go_ret
        exact ⟨rf_, be_ HB.out⟩

/-! ###  laws_markStringS: function 115 -/
def laws_markStringS.l0 : Nat → List ByteArray → Int → Int → Option (Int × List ByteArray)
  | 0, _, _, _ => none
  | k + 1, x0, x1, x5 => if x5 < (x0.length : Int) then ((laws_markText.f k x1).bind fun t614 => (if 0 ≤ x5 then (laws_markStringS.l0 k (x0.set (x5 : Int).toNat t614) (wrap64 (x1 + 1)) (wrap64 (x5 + 1))) else (none))) else (some (x1, x0))
def laws_markStringS.f (k : Nat) (l0 : List ByteArray) (a1 : Int) : Option (Int × List ByteArray) := laws_markStringS.l0 k l0 a1 0
set_option maxHeartbeats 8000000 in
set_option maxRecDepth 100000 in
theorem laws_markStringS.calls (k : Nat) (P0_ : Nat → Prop) (u9000_ : Value) (l0 : List ByteArray) (a1 : Int) (r1 : Int) (r2 : List ByteArray) (w0 w : World) (hB : Below w0.heap.size w0 w) (ho0 : Kd.R Kd.string 9 w w0.heap.size P0_ u9000_ l0) (h : laws_markStringS.f k l0 a1 = some (r1, r2)) :
  Calls Try.prog 115 #[u9000_, .int .i64 a1] w fun e w' => e = .returned (.int .i64 r1) ∧ Kd.R Kd.string 9 w' w0.heap.size (fun k_ => (P0_ k_ ∨ w.heap.size ≤ k_)) u9000_ r2 ∧ Below w0.heap.size w0 w' ∧ Kept w w' (fun k_ => P0_ k_) := by
  have HO0 := q_ (show Kd.R Kd.string 9 w w0.heap.size (fun k_ => (P0_ k_ ∨ w.heap.size ≤ k_)) u9000_ l0 from Kd.R_mono ho0 (fun k_ hk => (.inl hk)))
  have HK := q_ (Kept.refl w (fun k_ => P0_ k_))
  have HW0 := Aside0.mk hB.size
  have HB := Aside0.mk hB
  clear hB
  have H : (laws_markStringS.l0 k l0 a1 0) = some (r1, r2) := h
  clear h
  have H' := Aside0.mk H
  clear H
  go_enter Try.func115, Try.ntmps115
  go_wp2
  go_loopg [1, 5] k (fun kq v1 v5 w' => ∃ (x0_1 : List ByteArray) (x1_1 : Int) (x5_1 : Int), v1 = .int .i64 x1_1 ∧ v5 = .int .i64 x5_1 ∧ Aside0 (laws_markStringS.l0 kq x0_1 x1_1 x5_1 = some (r1, r2)) ∧ Aside0 (kq ≤ k) ∧ Aside0 (Kd.R Kd.string 9 w' w0.heap.size (fun k_ => (P0_ k_ ∨ w.heap.size ≤ k_)) u9000_ x0_1) ∧ Aside0 (Kept w w' (fun k_ => P0_ k_)) ∧ Aside0 (Below w0.heap.size w0 w'))
  case atStart => exact ⟨(l0), (a1), (0), rs_, rs_, H', ⟨Nat.le_refl _⟩, ⟨by (with_reducible repeat (first | apply Kd.R_alloc | apply Kd.R_drewN | apply Kd.R_drew)); exact HO0.out⟩, ⟨by repeat (first | (with_reducible first | exact HK.out | apply Kept.alloc | apply Kept.drewN | apply Kept.drew) | exact HK.out)⟩, ⟨be_ HB.out⟩⟩
  case round =>
   clear H'
   try clear c1
   try clear p2
   obtain ⟨x0_1, x1_1, x5_1, rfl, rfl, HA, HK1, HO_0, HK, HB⟩ := hrel
   cases gk with
   | zero => exact absurd HA.out (by simp [laws_markStringS.l0])
   | succ k1 =>
    have H := HA.out
    clear HA
    simp only [laws_markStringS.l0] at H
    by_cases c3 : x5_1 < (x0_1.length : Int)
    · rw [if_pos c3] at H
      have c3b0 : decide (x5_1 < (x0_1.length : Int)) = true := decide_eq_true c3
      clear c3
      replace H := Option.bind_eq_some_iff.mp H
      obtain ⟨t614, A40, H⟩ := H
      have A4 := Aside0.mk A40
      clear A40
      by_cases c5 : 0 ≤ x5_1
      rotate_left
      · rw [if_neg c5] at H; exact absurd H (by simp)
      rw [if_pos c5] at H
      have c5b0 : decide (0 ≤ x5_1) = true := decide_eq_true c5
      clear c5
      obtain ⟨y615, hy615⟩ : ∃ y_ : List ByteArray, y_ = (x0_1.set (x5_1 : Int).toNat t614) := ⟨_, rfl⟩
      replace H : (laws_markStringS.l0 k1 y615 (wrap64 (x1_1 + 1)) (wrap64 (x5_1 + 1))) = some (r1, r2) := ry_ hy615 H
      have Ny615 := Aside0.mk hy615
      clear hy615
      have H' := Aside0.mk H
      clear H
      obtain ⟨Ao7, co7, eo7⟩ := Kd.R_slice HO_0.out
      subst eo7
      go_wp2_with (first | ((with_reducible refine gate_callee (f := 80) rfl ?_); refine gl_ (some 15) Try.func80 #[.int .i64 x1_1] rfl al_ ?_; (with_reducible refine (laws_markText.calls k1 x1_1 t614 _ A4.out).mono ?_); rintro e w8 ⟨rfl, hb⟩; refine ⟨_, rfl, ?_⟩; replace HO_0 := q_ (Kd.R_below (kr_ HO_0.out) hb); replace HK := q_ (Kept.below (S := (fun k_ => P0_ k_)) (by repeat (first | (with_reducible first | exact HK.out | apply Kept.alloc | apply Kept.drewN | apply Kept.drew) | exact HK.out)) hb); replace HB := q_ (below_step (be_ HB.out) hb); (try clear hb); have p6 : 0 ≤ (x5_1 : Int) := od_; have q6 : (x5_1 : Int) < ((x0_1.length : Int) : Int) := od_; obtain ⟨go6, co6, eo6, gb6, gl6, cl6, HG6⟩ := Kd.R_form HO_0.out (by omega); (first | cases eo6 | (injection eo6 with ea_ en_ ec_; (first | subst ea_ | (injection ea_ with ea_; subst ea_)); subst ec_; clear en_)); have GB6 := Aside0.mk gb6; have GG6 := Aside0.mk HG6; clear gb6 gl6 HG6; have HMgo6 := q_ (show (P0_ go6 ∨ w.heap.size ≤ go6) from (HO_0.out.1 _ rfl)); obtain ⟨hx6_0, hf6_0⟩ := Kd.R_celln (⟨#[]⟩ : ByteArray) HO_0.out (x5_1 : Int) p6 q6; replace p6 := eq_true p6; replace q6 := eq_true q6; obtain ⟨hy9_, hz9_⟩ := Kd.R_celln (⟨#[]⟩ : ByteArray) HO_0.out (x5_1 : Int) od_ od_; have HP9 := Kd.R_putg HO_0.out (x5_1 : Int) t614) | ((with_reducible refine gate_store (t := 9) (p := 16) rfl ?_); refine store_event (t := 9) (p := 16) (v := ?vo_w10) (w1 := (w8.setCell ⟨go6, (x5_1 : Int).toNat, none⟩ (.string t614))) ?hg ?ho ?hn ?hr ?_; (case ho => rfl); (case hg => rfl); (case hn => rfl); (case hr => first | (go_simp; done) | (go_simp; rfl)); intro w10 hw; have hg : w8.grownBy w10 (some go6) := (by rw [hw]; exact HP9.2); have hp_ : Kd.R Kd.string 9 w10 w0.heap.size (fun k_ => (P0_ k_ ∨ w.heap.size ≤ k_)) (.slice (some ⟨go6, 0, none⟩) x0_1.length co7) y615 := (by rw [hw, Ny615.out]; exact HP9.1); clear HP9; replace HB := q_ ((by rw [hw]; exact below_set (HB.out) GB6.out : Below w0.heap.size w0 w10)); replace HK := q_ (Kept.of_grown (S := (fun k_ => P0_ k_)) hg (by repeat (first | (with_reducible first | exact HK.out | apply Kept.alloc | apply Kept.drewN | apply Kept.drew) | exact HK.out)) (fun k_ e_ => (HO_0.out.1 k_ e_))); replace HO_0 := q_ (hp_); clear hg hw hp_))
      go_roundg k1
      case measure => have := HK1.out; omega
      case rel => exact ⟨(y615), (wrap64 (x1_1 + 1)), (wrap64 (x5_1 + 1)), rs_, rs_, H', ⟨by have := HK1.out; omega⟩, ⟨by (with_reducible repeat (first | apply Kd.R_alloc | apply Kd.R_drewN | apply Kd.R_drew)); exact HO_0.out⟩, ⟨by repeat (first | (with_reducible first | exact HK.out | apply Kept.alloc | apply Kept.drewN | apply Kept.drew) | exact HK.out)⟩, ⟨be_ HB.out⟩⟩
    · rw [if_neg c3] at H
      have c3b0 : decide (x5_1 < (x0_1.length : Int)) = false := decide_eq_false c3
      clear c3
      simp only [Option.some.injEq, Prod.mk.injEq] at H
      obtain ⟨rfl, rfl⟩ := H
      obtain ⟨Ao11, co11, eo11⟩ := Kd.R_slice HO_0.out
      subst eo11
      go_wp2
      go_ret
      exact ⟨rf_, by (with_reducible repeat (first | apply Kd.R_alloc | apply Kd.R_drewN | apply Kd.R_drew)); exact HO_0.out, be_ HB.out, by repeat (first | (with_reducible first | exact HK.out | apply Kept.alloc | apply Kept.drewN | apply Kept.drew) | exact HK.out)⟩

/-! ### laws_markProof: function 23 -/
-- by hand
theorem mi_key {W : World} {base : Nat} {ok : Nat → Prop} {g n cap : Nat} {l : List S63} (h : Kd.S k63 63 W base ok (.slice (some ⟨g, 0, none⟩) n cap) l) (i : Nat) (hi : i < n) (t : ByteArray) {y : S63} (hy : l.getD i z63 = y) :
    (∃ u, W.cell? ⟨g, i * 3, none⟩ = some u) ∧ W.frozen? ⟨g, i * 3, none⟩ = false ∧ Kd.S k63 63 (W.setCell ⟨g, i * 3, none⟩ (.string t)) base ok (.slice (some ⟨g, 0, none⟩) n cap) (l.set i ⟨⟨t, y.f0.f1⟩, y.f1⟩) ∧ W.grownBy (W.setCell ⟨g, i * 3, none⟩ (.string t)) (some g) := by
  obtain ⟨oki, c, hcl, hM, hcc, hfr, hoki, hH⟩ := Kd.S_elem h z63 (i : Int) (by omega) (by omega)
  obtain ⟨v2, rfl, g2⟩ := k63_openM hM
  have g3 : Kd.string.R 9 W base oki v2 y.f1 := hy ▸ g2
  have e1 : (l.getD (i : Int).toNat z63) = y := hy
  rw [e1] at hH
  have hs := Kd.S_seg0 hH (by omega) (by omega) (seg := [.string t]) (j := 0) (show 0 + 1 ≤ 3 by decide) (x' := ⟨⟨t, y.f0.f1⟩, y.f1⟩) (okp := oki) (k63_mkM W base oki ⟨⟨t, y.f0.f1⟩, y.f1⟩ g3) (fun _ hk => hk)
  exact ⟨⟨_, hcc 0 _ rfl⟩, hfr 0, hs.1, hs.2⟩
theorem mi_get {l : List S63} {i : Nat} (hi : i < l.length) (y : S63) : (l.set i y).getD i z63 = y := by
  rw [List.getD_eq_getElem?_getD, List.getElem?_set_self hi]
  rfl
theorem mi_val {W : World} {base : Nat} {ok : Nat → Prop} {g n cap : Nat} {l : List S63} {y : S63} {i : Nat} (h : Kd.S k63 63 W base ok (.slice (some ⟨g, 0, none⟩) n cap) (l.set i y)) (hi : i < n) (t : ByteArray) :
    (∃ u, W.cell? ⟨g, i * 3 + 1, none⟩ = some u) ∧ W.frozen? ⟨g, i * 3 + 1, none⟩ = false ∧ Kd.S k63 63 (W.setCell ⟨g, i * 3 + 1, none⟩ (.string t)) base ok (.slice (some ⟨g, 0, none⟩) n cap) (l.set i ⟨⟨y.f0.f0, t⟩, y.f1⟩) ∧ W.grownBy (W.setCell ⟨g, i * 3 + 1, none⟩ (.string t)) (some g) := by
  have hn := (Kd.S_reads' h).1
  rw [List.length_set] at hn
  obtain ⟨oki, c, hcl, hM, hcc, hfr, hoki, hH⟩ := Kd.S_elem h z63 (i : Int) (by omega) (by omega)
  obtain ⟨v2, rfl, g2⟩ := k63_openM hM
  have e1 : ((l.set i y).getD (i : Int).toNat z63) = y := mi_get (by omega) y
  rw [e1] at hH g2
  have hs := Kd.S_seg0 hH (by omega) (by omega) (seg := [.string t]) (j := 1) (show 1 + 1 ≤ 3 by decide) (x' := ⟨⟨y.f0.f0, t⟩, y.f1⟩) (okp := oki) (k63_mkM W base oki ⟨⟨y.f0.f0, t⟩, y.f1⟩ g2) (fun _ hk => hk)
  have e2 : (l.set i y).set (i : Int).toNat ⟨⟨y.f0.f0, t⟩, y.f1⟩ = l.set i ⟨⟨y.f0.f0, t⟩, y.f1⟩ := List.set_set ..
  rw [e2] at hs
  exact ⟨⟨_, hcc 1 _ rfl⟩, hfr 1, hs.1, hs.2⟩
theorem mi_row {W : World} {base : Nat} {ok : Nat → Prop} {g n cap : Nat} {l : List S63} {y : S63} {i : Nat} (h : Kd.S k63 63 W base ok (.slice (some ⟨g, 0, none⟩) n cap) (l.set i y)) (hi : i < n) :
    ∃ oki v2, W.cell? ⟨g, i * 3 + 2, none⟩ = some v2 ∧ Kd.string.R 9 W base oki v2 y.f1 ∧ (∀ k, oki k → ok k ∧ k ≠ g) ∧ ∀ (W' : World) (r : List ByteArray), Kd.string.R 9 W' base (fun k => oki k ∨ W.heap.size ≤ k) v2 r → Kept W W' oki → Kd.S k63 63 W' base ok (.slice (some ⟨g, 0, none⟩) n cap) (l.set i ⟨y.f0, r⟩) := by
  have hn := (Kd.S_reads' h).1
  rw [List.length_set] at hn
  obtain ⟨oki, c, hcl, hM, hcc, hfr, hoki, hH⟩ := Kd.S_elem h z63 (i : Int) (by omega) (by omega)
  obtain ⟨v2, rfl, g2⟩ := k63_openM hM
  have e1 : ((l.set i y).getD (i : Int).toNat z63) = y := mi_get (by omega) y
  rw [e1] at hH g2
  refine ⟨oki, v2, hcc 2 _ rfl, g2, hoki, fun W' r hr hk => ?_⟩
  have hr2 : Kd.string.R 9 W' base oki v2 r := Kd.R_reok rfl hr (fun k hk => g2.1 k hk)
  have hs := Kd.H_back (Kd.H_kept hH hk (fun k _ hn h => hn h)) (k63_mkM W' base oki ⟨y.f0, r⟩ hr2) (fun _ hk => hk)
  have e2 : (l.set i y).set (i : Int).toNat ⟨y.f0, r⟩ = l.set i ⟨y.f0, r⟩ := List.set_set ..
  rw [e2] at hs
  exact hs
def mi (k : Nat) : Nat → Nat → List S63 → Int → Option (Int × List S63)
  | 0, _, l, a => some (a, l)
  | d + 1, i, l, a => (laws_markText.f k a).bind fun t1 => (laws_markText.f k (wrap64 (a + 1))).bind fun t2 => (laws_markStringS.f k (l.getD i z63).f1 (wrap64 (wrap64 (a + 1) + 1))).bind fun m => mi k d (i + 1) (l.set i ⟨⟨t1, t2⟩, m.2⟩) m.1
theorem mi_len (k : Nat) : ∀ (d i : Nat) (l : List S63) (a : Int) (r : Int × List S63), mi k d i l a = some r → r.2.length = l.length := by
  intro d
  induction d with
  | zero => intro i l a r h; simp only [mi, Option.some.injEq] at h; rw [← h]
  | succ d ih =>
    intro i l a r h
    rw [mi] at h
    obtain ⟨t1, _, h⟩ := Option.bind_eq_some_iff.mp h
    obtain ⟨t2, _, h⟩ := Option.bind_eq_some_iff.mp h
    obtain ⟨m, _, h⟩ := Option.bind_eq_some_iff.mp h
    rw [ih _ _ _ _ h, List.length_set]
def mi_all (k : Nat) (l : List S63) (a : Int) : Option (Int × List S63) := if l.length < 1000000000 then mi k l.length 0 l a else none
theorem mi_below {w0 w w1 : World} (h : Below w0.heap.size w0 w) (hb : Below w.heap.size w w1) : Below w0.heap.size w0 w1 := below_then h h.size hb
theorem mi_set {w0 w : World} {g j : Nat} {v : Value} (h : Below w0.heap.size w0 w) (hg : w0.heap.size ≤ g) : Below w0.heap.size w0 (w.setCell ⟨g, j, none⟩ v) := below_set h hg
theorem mi_kset {w w1 : World} {ok : Nat → Prop} {g j : Nat} {v : Value} (h : Kept w w1 ok) (hg : ok g) : Kept w (w1.setCell ⟨g, j, none⟩ v) ok := Kept.setCell h (.inl hg) v
set_option maxHeartbeats 8000000 in
set_option maxRecDepth 100000 in
theorem mi_calls (k : Nat) (A : Option Addr) (cap : Nat) (l0 : List S63) (a1 : Int) (r1 : Int) (r2 : List S63) (ok : Nat → Prop) (w0 w : World) (hB : Below w0.heap.size w0 w) (ho : Kd.S k63 63 w w0.heap.size ok (.slice A l0.length cap) l0) (h : mi_all k l0 a1 = some (r1, r2)) :
    Calls Try.prog 79 #[.slice A l0.length cap, .int .i64 a1] w fun e w' => e = .returned (.int .i64 r1) ∧ Kd.S k63 63 w' w0.heap.size ok (.slice A l0.length cap) r2 ∧ Below w0.heap.size w0 w' ∧ Kept w w' ok := by
  unfold mi_all at h
  by_cases hl : l0.length < 1000000000
  rotate_left
  · rw [if_neg hl] at h; cases h
  rw [if_pos hl] at h
  have HS0 := Aside0.mk ho
  have HB0 := Aside0.mk hB
  have H := Aside0.mk h
  clear h ho hB
  go_enter Try.func79, Try.ntmps79
  go_wp2
  go_loopw [1, 5] (fun v1 v5 wr => ∃ (i : Nat) (l : List S63) (a : Int), v1 = .int .i64 a ∧ v5 = .int .i64 (i : Int) ∧ i ≤ l0.length ∧ Aside0 (Kd.S k63 63 wr w0.heap.size ok (.slice A l0.length cap) l) ∧ Aside0 (Below w0.heap.size w0 wr) ∧ Aside0 (Kept w wr ok) ∧ Aside0 (mi k (l0.length - i) i l a = some (r1, r2))) (fun _ v5 _ => l0.length - (intOf v5).toNat)
  case atStart => exact ⟨0, l0, a1, rfl, rfl, Nat.zero_le _, ⟨HS0.out⟩, ⟨HB0.out⟩, ⟨Kept.refl _ _⟩, ⟨H.out⟩⟩
  case round =>
    obtain ⟨i, l, a, rfl, rfl, hi, HS, HB, HK, HH⟩ := hrel
    by_cases hlt : i < l0.length
    · have hin : (i : Int) < (l0.length : Int) := by omega
      have hh := HH.out
      rw [show l0.length - i = (l0.length - (i + 1)) + 1 by omega, mi] at hh
      obtain ⟨t1, ht1, hh⟩ := Option.bind_eq_some_iff.mp hh
      obtain ⟨t2, ht2, hh⟩ := Option.bind_eq_some_iff.mp hh
      obtain ⟨⟨m1, m2⟩, hm, hh⟩ := Option.bind_eq_some_iff.mp hh
      simp only at hh
      have HT1 := Aside0.mk ht1
      have HT2 := Aside0.mk ht2
      have HM := Aside0.mk hm
      have HN := Aside0.mk hh
      have hll : l0.length = l.length := (Kd.S_reads' HS.out).1
      have HLL := Aside0.mk hll
      clear ht1 ht2 hm hh hll
      obtain ⟨g, cp, hv, hbg, hgl, cells, hgc⟩ := Kd.S_form HS.out (by have := HLL.out; omega)
      injection hv with hA hnn hcp
      clear hnn
      subst hA
      have hokg : ok g := (Kd.S_R HS.out).1 g rfl
      have HG := Aside0.mk (And.intro hbg hokg)
      clear hcp hgl hgc hbg hokg
      go_wp2_with (first
        | (with_reducible (go_at_call 80; refine (laws_markText.calls k a t1 wr HT1.out).mono ?_; rintro e w2 ⟨rfl, hb⟩; obtain ⟨⟨u, x0⟩, x1, x2, x3⟩ := mi_key (Kd.S_below HS.out hb) i hlt t1 rfl; have HS2 := Aside0.mk x2; have HB2 := Aside0.mk hb; clear hb x2 x3))
        | (with_reducible (go_at_call 80; refine (laws_markText.calls k (wrap64 (a + 1)) t2 (w2.setCell ⟨g, i * 3, none⟩ (.string t1)) HT2.out).mono ?_; rintro e w3 ⟨rfl, hb⟩; obtain ⟨⟨u3, y0⟩, y1, y2, y3⟩ := mi_val (Kd.S_below HS2.out hb) hlt t2; obtain ⟨oki, v2, z0, z1, z2, z3⟩ := mi_row y2 hlt; have HB3 := Aside0.mk hb; have HR := Aside0.mk z1; have HO := Aside0.mk z2; have HZ := Aside0.mk z3; have hbb := mi_set (j := i * 3 + 1) (v := .string t2) (mi_below (mi_set (j := i * 3) (v := .string t1) (mi_below HB.out HB2.out) HG.out.1) hb) HG.out.1; have HBB := Aside0.mk hbb; clear hb y2 y3 z1 z2 z3 x0 x1 hbb))
        | (with_reducible (go_at_call 115; refine (laws_markStringS.calls k oki v2 (l.getD i z63).f1 (wrap64 (wrap64 (a + 1) + 1)) m1 m2 w0 (w3.setCell ⟨g, i * 3 + 1, none⟩ (.string t2)) HBB.out HR.out HM.out).mono ?_; rintro e w4 ⟨rfl, hr, hb, hk⟩; have HS4 := Aside0.mk (HZ.out w4 m2 hr hk); have HB4 := Aside0.mk hb; have HK4 := Aside0.mk hk; clear hr hb hk)))
      have hkk : Kept w w4 ok := Kept.then_ (mi_kset (j := i * 3 + 1) (v := .string t2) (Kept.below (mi_kset (j := i * 3) (v := .string t1) (Kept.below HK.out HB2.out) HG.out.2) HB3.out) HG.out.2) HK4.out (fun k hk => .inl (HO.out k hk).1)
      have hw : (i : Int) + 1 = ((i + 1 : Nat) : Int) := by omega
      go_roundw
      case rel => exact ⟨i + 1, _, m1, rfl, congrArg _ hw, by omega, HS4, HB4, ⟨hkk⟩, ⟨HN.out⟩⟩
      case measure => simp [intOf]; omega
    · have hin : ¬ (i : Int) < (l0.length : Int) := by omega
      have hh := HH.out
      rw [show l0.length - i = 0 by omega, mi] at hh
      simp only [Option.some.injEq, Prod.mk.injEq] at hh
      obtain ⟨rfl, rfl⟩ := hh
      go_wp2
      go_ret
      exact ⟨rfl, HS.out, HB.out, HK.out⟩
def laws_markProof.f (k : Nat) (a0 : Int) (a1 : Int) (l2 : List S63) (a : Int) : Option (Int × List S63) := mi_all k l2 a
theorem laws_markProof.len {k : Nat} {a0 a1 : Int} {l2 : List S63} {a : Int} {r : Int × List S63} (h : laws_markProof.f k a0 a1 l2 a = some r) : r.2.length = l2.length := by
  unfold laws_markProof.f mi_all at h
  split at h
  · exact mi_len k _ _ _ _ _ h
  · cases h
set_option maxHeartbeats 8000000 in
set_option maxRecDepth 100000 in
/-- The proof's items are marked: its rows alone are turned. -/
theorem laws_markProof.callsS (k : Nat) (a0 a1 : Int) (A : Option Addr) (cap n : Nat) (l2 : List S63) (a : Int) (r1 : Int) (r2 : List S63) (ok : Nat → Prop) (w0 w : World) (hB : Below w0.heap.size w0 w) (ho : Kd.S k63 63 w w0.heap.size ok (.slice A n cap) l2) (h : laws_markProof.f k a0 a1 l2 a = some (r1, r2)) :
    Calls Try.prog 23 #[.agg #[.int .i64 a0, .int .i64 a1, .slice A n cap], .int .i64 a] w fun e w' => e = .returned (.int .i64 r1) ∧ Kd.S k63 63 w' w0.heap.size ok (.slice A n cap) r2 ∧ Below w0.heap.size w0 w' ∧ Kept w w' ok := by
  obtain rfl : n = l2.length := (Kd.S_reads' ho).1
  unfold laws_markProof.f at h
  have HS0 := Aside0.mk ho
  have HB0 := Aside0.mk hB
  have H := Aside0.mk h
  clear h ho hB
  go_enter Try.func23, Try.ntmps23
  go_wp2_with (with_reducible (go_at_call 79; refine (mi_calls k A cap l2 a r1 r2 ok w0 (w.alloc (.cells #[.int .i64 a0, .int .i64 a1, .slice A l2.length cap] 44)) (mi_below HB0.out (below_alloc (Below.refl _ _) _)) (Kd.S_alloc HS0.out _) H.out).mono ?_; rintro e w2 ⟨rfl, hs, hb, hk⟩; have HS2 := Aside0.mk hs; have HB2 := Aside0.mk hb; have HK2 := Aside0.mk hk; clear hs hb hk))
  go_ret
  exact ⟨rfl, HS2.out, HB2.out, Kept.then_ (Kept.alloc (Kept.refl _ _) _) HK2.out (fun _ hk => .inl hk)⟩
theorem mi_newB {α : Type} {d : Kd α} {e b : Nat} {w1 : World} {ok : Nat → Prop} {v : Value} {xs : List α} (h : Kd.S d e w1 b ok v xs) : ∃ B, B = b ∧ Kd.S d e w1 b (fun k => ok k ∧ B ≤ k) v xs := ⟨b, rfl, Kd.S_mono (Kd.S_bound h) (fun _ hk => ⟨hk.1, hk.2.1⟩)⟩
theorem mi_elderB {α : Type} {d : Kd α} {e base B : Nat} {W w1 : World} {ok : Nat → Prop} {u : Value} {xs : List α} (h : Kd.S d e W base ok u xs) (hb : Below W.heap.size W w1) (hB : B = W.heap.size) : Kd.S d e w1 base (fun k => ok k ∧ k < B) u xs := Kd.S_below (Kd.S_mono (Kd.S_bound h) (fun _ hk => ⟨hk.1, by rw [hB]; exact hk.2.2.1⟩)) hb
theorem mi_apart {w : World} {k : Nat} {L M : List Nat} (h : ∃ q, q ∈ L ∧ ∃ cells, w.heap[k]? = some (.cells cells q (0, 0))) (h2 : ∃ q, q ∈ M ∧ ∃ cells, w.heap[k]? = some (.cells cells q (0, 0))) (hd : ∀ q, q ∈ L → q ∉ M) : False := by
  obtain ⟨q, hq, c, hc⟩ := h
  obtain ⟨q2, hq2, c2, hc2⟩ := h2
  rw [hc] at hc2
  injection hc2 with hc2
  injection hc2 with _ hq3
  exact hd q hq (hq3 ▸ hq2)
theorem mi_len2 {α : Type} {d : Kd α} {e b n m : Nat} {w : World} {ok : Nat → Prop} {A : Option Addr} {c : Nat} {xs : List α} (h : m = n) (s : Kd.S d e w b ok (.slice A n c) xs) : Kd.S d e w b ok (.slice A m c) xs := h ▸ s
theorem mi_box2 {w : World} {g t n m : Nat} {x y : Value} {A : Option Addr} {c : Nat} (h : m = n) (b : w.heap[g]? = some (.cells #[x, y, .slice A n c] t (0, 0))) : w.heap[g]? = some (.cells #[x, y, .slice A m c] t (0, 0)) := h ▸ b


/-! ###  laws_markPairS: function 24 -/
def laws_markPairS.l0 : Nat → List (S26) → Int → Int → Option (Int × (List (S26)))
  | 0, _, _, _ => none
  | k + 1, x0, x1, x5 => if x5 < (x0.length : Int) then ((laws_markText.f k x1).bind fun t617 => (if 0 ≤ x5 then ((some (x0.set (x5 : Int).toNat (⟨t617, (rd_T26 x0 x5).f1⟩ : S26) : List (S26))).bind fun y618 => ((laws_markText.f k (wrap64 (x1 + 1))).bind fun t619 => (laws_markPairS.l0 k (y618.set (x5 : Int).toNat (⟨(rd_T26 y618 x5).f0, t619⟩ : S26)) (wrap64 ((wrap64 (x1 + 1)) + 1)) (wrap64 (x5 + 1))))) else (none))) else (some (x1, x0))
def laws_markPairS.f (k : Nat) (l0 : List (S26)) (a1 : Int) : Option (Int × (List (S26))) := laws_markPairS.l0 k l0 a1 0
set_option maxHeartbeats 8000000 in
set_option maxRecDepth 100000 in
theorem laws_markPairS.calls (k : Nat) (P0_ : Nat → Prop) (u9000_ : Value) (l0 : List (S26)) (a1 : Int) (r1 : Int) (r2 : List (S26)) (w0 w : World) (hB : Below w0.heap.size w0 w) (ho0 : Kd.R k26 26 w w0.heap.size P0_ u9000_ l0) (h : laws_markPairS.f k l0 a1 = some (r1, r2)) :
  Calls Try.prog 24 #[u9000_, .int .i64 a1] w fun e w' => e = .returned (.int .i64 r1) ∧ Kd.R k26 26 w' w0.heap.size (fun k_ => (P0_ k_ ∨ w.heap.size ≤ k_)) u9000_ r2 ∧ Below w0.heap.size w0 w' ∧ Kept w w' (fun k_ => P0_ k_) := by
  have HO0 := q_ (show Kd.R k26 26 w w0.heap.size (fun k_ => (P0_ k_ ∨ w.heap.size ≤ k_)) u9000_ l0 from Kd.R_mono ho0 (fun k_ hk => (.inl hk)))
  have HK := q_ (Kept.refl w (fun k_ => P0_ k_))
  have HW0 := Aside0.mk hB.size
  have HB := Aside0.mk hB
  clear hB
  have H : (laws_markPairS.l0 k l0 a1 0) = some (r1, r2) := h
  clear h
  have H' := Aside0.mk H
  clear H
  go_enter Try.func24, Try.ntmps24
  go_wp2
  go_loopg [1, 5] k (fun kq v1 v5 w' => ∃ (x0_1 : List (S26)) (x1_1 : Int) (x5_1 : Int), v1 = .int .i64 x1_1 ∧ v5 = .int .i64 x5_1 ∧ Aside0 (laws_markPairS.l0 kq x0_1 x1_1 x5_1 = some (r1, r2)) ∧ Aside0 (kq ≤ k) ∧ Aside0 (Kd.R k26 26 w' w0.heap.size (fun k_ => (P0_ k_ ∨ w.heap.size ≤ k_)) u9000_ x0_1) ∧ Aside0 (Kept w w' (fun k_ => P0_ k_)) ∧ Aside0 (Below w0.heap.size w0 w'))
  case atStart => exact ⟨(l0), (a1), (0), rs_, rs_, H', ⟨Nat.le_refl _⟩, ⟨by (with_reducible repeat (first | apply Kd.R_alloc | apply Kd.R_drewN | apply Kd.R_drew)); exact HO0.out⟩, ⟨by repeat (first | (with_reducible first | exact HK.out | apply Kept.alloc | apply Kept.drewN | apply Kept.drew) | exact HK.out)⟩, ⟨be_ HB.out⟩⟩
  case round =>
   clear H'
   try clear c2
   try clear p2
   obtain ⟨x0_1, x1_1, x5_1, rfl, rfl, HA, HK1, HO_0, HK, HB⟩ := hrel
   cases gk with
   | zero => exact absurd HA.out (by simp [laws_markPairS.l0])
   | succ k1 =>
    have H := HA.out
    clear HA
    simp only [laws_markPairS.l0] at H
    by_cases c3 : x5_1 < (x0_1.length : Int)
    · rw [if_pos c3] at H
      have c3b0 : decide (x5_1 < (x0_1.length : Int)) = true := decide_eq_true c3
      clear c3
      replace H := Option.bind_eq_some_iff.mp H
      obtain ⟨t617, A40, H⟩ := H
      have A4 := Aside0.mk A40
      clear A40
      by_cases c5 : 0 ≤ x5_1
      rotate_left
      · rw [if_neg c5] at H; exact absurd H (by simp)
      rw [if_pos c5] at H
      have c5b0 : decide (0 ≤ x5_1) = true := decide_eq_true c5
      clear c5
      obtain ⟨y618, hy618⟩ : ∃ y_ : List (S26), y_ = (x0_1.set (x5_1 : Int).toNat (⟨t617, (rd_T26 x0_1 x5_1).f1⟩ : S26)) := ⟨_, rfl⟩
      replace H : ((laws_markText.f k1 (wrap64 (x1_1 + 1))).bind fun t619 => (laws_markPairS.l0 k1 (y618.set (x5_1 : Int).toNat (⟨(rd_T26 y618 x5_1).f0, t619⟩ : S26)) (wrap64 ((wrap64 (x1_1 + 1)) + 1)) (wrap64 (x5_1 + 1)))) = some (r1, r2) := ry_ hy618 H
      have Ny618 := Aside0.mk hy618
      clear hy618
      replace H := Option.bind_eq_some_iff.mp H
      obtain ⟨t619, A70, H⟩ := H
      have A7 := Aside0.mk A70
      clear A70
      obtain ⟨y620, hy620⟩ : ∃ y_ : List (S26), y_ = (y618.set (x5_1 : Int).toNat (⟨(rd_T26 y618 x5_1).f0, t619⟩ : S26)) := ⟨_, rfl⟩
      replace H : (laws_markPairS.l0 k1 y620 (wrap64 ((wrap64 (x1_1 + 1)) + 1)) (wrap64 (x5_1 + 1))) = some (r1, r2) := ry_ hy620 H
      have Ny620 := Aside0.mk hy620
      clear hy620
      have H' := Aside0.mk H
      clear H
      obtain ⟨Ao9, co9, eo9⟩ := Kd.R_slice HO_0.out
      subst eo9
      go_wp2_with (first | ((with_reducible refine gate_callee (f := 80) rfl ?_); refine gl_ (some 15) Try.func80 #[.int .i64 x1_1] rfl al_ ?_; (with_reducible refine (laws_markText.calls k1 x1_1 t617 _ A4.out).mono ?_); rintro e w10 ⟨rfl, hb⟩; refine ⟨_, rfl, ?_⟩; replace HO_0 := q_ (Kd.R_below (kr_ HO_0.out) hb); replace HK := q_ (Kept.below (S := (fun k_ => P0_ k_)) (by repeat (first | (with_reducible first | exact HK.out | apply Kept.alloc | apply Kept.drewN | apply Kept.drew) | exact HK.out)) hb); replace HB := q_ (below_step (be_ HB.out) hb); (try clear hb); have p6 : 0 ≤ (x5_1 : Int) := od_; have q6 : (x5_1 : Int) < ((x0_1.length : Int) : Int) := od_; obtain ⟨go6, co6, eo6, gb6, gl6, cl6, HG6⟩ := Kd.R_form HO_0.out (by omega); (first | cases eo6 | (injection eo6 with ea_ en_ ec_; (first | subst ea_ | (injection ea_ with ea_; subst ea_)); subst ec_; clear en_)); have GB6 := Aside0.mk gb6; have GG6 := Aside0.mk HG6; clear gb6 gl6 HG6; have HMgo6 := q_ (show (P0_ go6 ∨ w.heap.size ≤ go6) from (HO_0.out.1 _ rfl)); obtain ⟨ce6, hcl6, hM6, hcc6, hfr6⟩ := Kd.R_elem HO_0.out z26 (x5_1 : Int) p6 q6; obtain rfl := k26_openM hM6; have hx6_0 : w10.cell? ⟨go6, (x5_1 : Int).toNat * 2, none⟩ = some (.string ((rd_T26 x0_1 x5_1).f0)) := hcc6 0 _ rfl; have hx6_1 : w10.cell? ⟨go6, (x5_1 : Int).toNat * 2 + 1, none⟩ = some (.string ((rd_T26 x0_1 x5_1).f1)) := hcc6 1 _ rfl; have hf6_0 : w10.frozen? ⟨go6, (x5_1 : Int).toNat * 2, none⟩ = false := hfr6 0; have hf6_1 : w10.frozen? ⟨go6, (x5_1 : Int).toNat * 2 + 1, none⟩ = false := hfr6 1; clear hcl6 hcc6 hfr6 hM6; replace p6 := eq_true p6; replace q6 := eq_true q6; have HX11 := q_ (show Kd.R k26 26 w10 w0.heap.size (fun k_ => (P0_ k_ ∨ w.heap.size ≤ k_)) (.slice (some ⟨go6, 0, none⟩) x0_1.length co9) x0_1 from (kr_ HO_0.out)); obtain ⟨ce11, hcl11, hM11, hcc11, hfr11⟩ := Kd.R_elem HX11.out z26 (x5_1 : Int) od_ (by have h_ : (x5_1 : Int) < ((x0_1.length : Int) : Int) := od_; first | exact h_ | (have e_ := (Kd.R_reads' HO_0.out).1; omega) | simpa using h_); obtain rfl := k26_openM hM11; have HP11 := Kd.R_seg HX11.out (x5_1 : Int) od_ (by have h_ : (x5_1 : Int) < ((x0_1.length : Int) : Int) := od_; first | exact h_ | (have e_ := (Kd.R_reads' HO_0.out).1; omega) | simpa using h_) (seg := [.string t617]) (j := 0) hcl11 hcc11 (show 1 ≤ 2 from by decide) (x' := (⟨t617, (rd_T26 x0_1 x5_1).f1⟩ : S26)) (k26_mkM _ _ _ (⟨t617, (rd_T26 x0_1 x5_1).f1⟩ : S26) ) (fun _ hk => hk); have hx11_0 := hcc11 0 _ rfl; (try simp only [show (k26).sz = 2 from rfl, Nat.mul_one, Nat.add_zero] at hx11_0); have hf11_0 := hfr11 0; (try simp only [show (k26).sz = 2 from rfl, Nat.mul_one, Nat.add_zero] at hf11_0); clear hcl11 hcc11 hfr11 hM11) | ((with_reducible refine gate_store (t := 9) (p := 17) rfl ?_); refine store_event (t := 9) (p := 17) (v := ?vo_w12) (w1 := (w10.setCell ⟨go6, (x5_1 : Int).toNat * 2, none⟩ (.string t617))) ?hg ?ho ?hn ?hr ?_; (case ho => rfl); (case hg => rfl); (case hn => rfl); (case hr => first | (go_simp; done) | (go_simp; rfl)); intro w12 hw; have hg : w10.grownBy w12 (some go6) := (by rw [hw]; exact HP11.2); have hp_ : Kd.R k26 26 w12 w0.heap.size (fun k_ => (P0_ k_ ∨ w.heap.size ≤ k_)) (.slice (some ⟨go6, 0, none⟩) x0_1.length co9) y618 := (by rw [hw, Ny618.out]; exact HP11.1); clear HP11; replace HB := q_ ((by rw [hw]; exact below_set (HB.out) GB6.out : Below w0.heap.size w0 w12)); replace HK := q_ (Kept.of_grown (S := (fun k_ => P0_ k_)) hg (by repeat (first | (with_reducible first | exact HK.out | apply Kept.alloc | apply Kept.drewN | apply Kept.drew) | exact HK.out)) (fun k_ e_ => (HO_0.out.1 k_ e_))); replace HO_0 := q_ (hp_); clear hg hw hp_) | ((with_reducible refine gate_callee (f := 80) rfl ?_); refine gl_ (some 23) Try.func80 #[.int .i64 (wrap64 (x1_1 + 1))] rfl al_ ?_; (with_reducible refine (laws_markText.calls k1 (wrap64 (x1_1 + 1)) t619 _ A7.out).mono ?_); rintro e w13 ⟨rfl, hb⟩; refine ⟨_, rfl, ?_⟩; replace HO_0 := q_ (Kd.R_below (kr_ HO_0.out) hb); replace HK := q_ (Kept.below (S := (fun k_ => P0_ k_)) (by repeat (first | (with_reducible first | exact HK.out | apply Kept.alloc | apply Kept.drewN | apply Kept.drew) | exact HK.out)) hb); replace HB := q_ (below_step (be_ HB.out) hb); (try clear hb); have p8 : 0 ≤ (x5_1 : Int) := od_; have q8 : (x5_1 : Int) < ((x0_1.length : Int) : Int) := od_; obtain ⟨ce8, hcl8, hM8, hcc8, hfr8⟩ := Kd.R_elem HO_0.out z26 (x5_1 : Int) p8 q8; obtain rfl := k26_openM hM8; have hx8_0 : w13.cell? ⟨go6, (x5_1 : Int).toNat * 2, none⟩ = some (.string ((rd_T26 y618 x5_1).f0)) := hcc8 0 _ rfl; have hx8_1 : w13.cell? ⟨go6, (x5_1 : Int).toNat * 2 + 1, none⟩ = some (.string ((rd_T26 y618 x5_1).f1)) := hcc8 1 _ rfl; have hf8_0 : w13.frozen? ⟨go6, (x5_1 : Int).toNat * 2, none⟩ = false := hfr8 0; have hf8_1 : w13.frozen? ⟨go6, (x5_1 : Int).toNat * 2 + 1, none⟩ = false := hfr8 1; clear hcl8 hcc8 hfr8 hM8; replace p8 := eq_true p8; replace q8 := eq_true q8; have HX14 := q_ (show Kd.R k26 26 w13 w0.heap.size (fun k_ => (P0_ k_ ∨ w.heap.size ≤ k_)) (.slice (some ⟨go6, 0, none⟩) x0_1.length co9) y618 from (kr_ HO_0.out)); obtain ⟨ce14, hcl14, hM14, hcc14, hfr14⟩ := Kd.R_elem HX14.out z26 (x5_1 : Int) od_ (by have h_ : (x5_1 : Int) < ((x0_1.length : Int) : Int) := od_; first | exact h_ | (have e_ := (Kd.R_reads' HO_0.out).1; omega) | simpa using h_); obtain rfl := k26_openM hM14; have HP14 := Kd.R_seg HX14.out (x5_1 : Int) od_ (by have h_ : (x5_1 : Int) < ((x0_1.length : Int) : Int) := od_; first | exact h_ | (have e_ := (Kd.R_reads' HO_0.out).1; omega) | simpa using h_) (seg := [.string t619]) (j := 1) hcl14 hcc14 (show 2 ≤ 2 from by decide) (x' := (⟨(rd_T26 y618 x5_1).f0, t619⟩ : S26)) (k26_mkM _ _ _ (⟨(rd_T26 y618 x5_1).f0, t619⟩ : S26) ) (fun _ hk => hk); have hx14_1 := hcc14 1 _ rfl; (try simp only [show (k26).sz = 2 from rfl, Nat.mul_one, Nat.add_zero] at hx14_1); have hf14_1 := hfr14 1; (try simp only [show (k26).sz = 2 from rfl, Nat.mul_one, Nat.add_zero] at hf14_1); clear hcl14 hcc14 hfr14 hM14) | ((with_reducible refine gate_store (t := 9) (p := 25) rfl ?_); refine store_event (t := 9) (p := 25) (v := ?vo_w15) (w1 := (w13.setCell ⟨go6, (x5_1 : Int).toNat * 2 + 1, none⟩ (.string t619))) ?hg ?ho ?hn ?hr ?_; (case ho => rfl); (case hg => rfl); (case hn => rfl); (case hr => first | (go_simp; done) | (go_simp; rfl)); intro w15 hw; have hg : w13.grownBy w15 (some go6) := (by rw [hw]; exact HP14.2); have hp_ : Kd.R k26 26 w15 w0.heap.size (fun k_ => (P0_ k_ ∨ w.heap.size ≤ k_)) (.slice (some ⟨go6, 0, none⟩) x0_1.length co9) y620 := (by rw [hw, Ny620.out]; exact HP14.1); clear HP14; replace HB := q_ ((by rw [hw]; exact below_set (HB.out) GB6.out : Below w0.heap.size w0 w15)); replace HK := q_ (Kept.of_grown (S := (fun k_ => P0_ k_)) hg (by repeat (first | (with_reducible first | exact HK.out | apply Kept.alloc | apply Kept.drewN | apply Kept.drew) | exact HK.out)) (fun k_ e_ => (HO_0.out.1 k_ e_))); replace HO_0 := q_ (hp_); clear hg hw hp_))
      go_roundg k1
      case measure => have := HK1.out; omega
      case rel => exact ⟨(y620), (wrap64 ((wrap64 (x1_1 + 1)) + 1)), (wrap64 (x5_1 + 1)), rs_, rs_, H', ⟨by have := HK1.out; omega⟩, ⟨by (with_reducible repeat (first | apply Kd.R_alloc | apply Kd.R_drewN | apply Kd.R_drew)); exact HO_0.out⟩, ⟨by repeat (first | (with_reducible first | exact HK.out | apply Kept.alloc | apply Kept.drewN | apply Kept.drew) | exact HK.out)⟩, ⟨be_ HB.out⟩⟩
    · rw [if_neg c3] at H
      have c3b0 : decide (x5_1 < (x0_1.length : Int)) = false := decide_eq_false c3
      clear c3
      simp only [Option.some.injEq, Prod.mk.injEq] at H
      obtain ⟨rfl, rfl⟩ := H
      obtain ⟨Ao16, co16, eo16⟩ := Kd.R_slice HO_0.out
      subst eo16
      go_wp2
      go_ret
      exact ⟨rf_, by (with_reducible repeat (first | apply Kd.R_alloc | apply Kd.R_drewN | apply Kd.R_drew)); exact HO_0.out, be_ HB.out, by repeat (first | (with_reducible first | exact HK.out | apply Kept.alloc | apply Kept.drewN | apply Kept.drew) | exact HK.out)⟩

/-! ###  laws_heldPairS: function 25 -/
def laws_heldPairS.l0 : Nat → List (S26) → Int → Int → Option (Int)
  | 0, _, _, _ => none
  | k + 1, x0, x1, x5 => if x5 < (x0.length : Int) then (if 0 ≤ x5 then ((laws_markText.f k x1).bind fun t622 => (if ((rd_T26 x0 x5).f0).toList = t622.toList then ((laws_markText.f k (wrap64 (x1 + 1))).bind fun t624 => (if ((rd_T26 x0 x5).f1).toList = t624.toList then (laws_heldPairS.l0 k x0 (wrap64 ((wrap64 (x1 + 1)) + 1)) (wrap64 (x5 + 1))) else (some (-1)))) else (some (-1)))) else (none)) else (some x1)
def laws_heldPairS.f (k : Nat) (l0 : List (S26)) (a1 : Int) : Option (Int) := laws_heldPairS.l0 k l0 a1 0
def laws_heldPairS.T4 : Bool × List (List Nat × List Nat) := (true, [([], []), ([], []), ([0, 1], [0, 1]), ([2], [2]), ([3], [3]), ([], []), ([5], [5]), ([4, 6], [4, 6])])
def laws_heldPairS.B4 : List Nat := [0, 0, 3, 7, 15, 0, 32, 127]
theorem laws_heldPairS.tab4 : rtab .any (opsOf Try.f25 4) = laws_heldPairS.T4 := by kernel_rfl
theorem laws_heldPairS.bits4 : waitsOk laws_heldPairS.T4.2 laws_heldPairS.B4 = true := by kernel_rfl
def laws_heldPairS.T7 : Bool × List (List Nat × List Nat) := (true, [([], []), ([], []), ([0, 1], [0, 1]), ([2], [2]), ([3], [3]), ([], []), ([5], [5]), ([4, 6], [4, 6])])
def laws_heldPairS.B7 : List Nat := [0, 0, 3, 7, 15, 0, 32, 127]
theorem laws_heldPairS.tab7 : rtab .any (opsOf Try.f25 7) = laws_heldPairS.T7 := by kernel_rfl
theorem laws_heldPairS.bits7 : waitsOk laws_heldPairS.T7.2 laws_heldPairS.B7 = true := by kernel_rfl
set_option maxHeartbeats 8000000 in
set_option maxRecDepth 100000 in
theorem laws_heldPairS.calls (k : Nat) (A0 : Option Addr) (c0 : Nat) (l0 : List (S26)) (a1 : Int) (r : Int) (w : World) (hr0 : Kd.C k26 w A0 l0.length l0) (hc0 : l0.length ≤ c0) (h : laws_heldPairS.f k l0 a1 = some r) :
  Calls Try.prog 25 #[.slice A0 l0.length c0, .int .i64 a1] w fun e w' => e = .returned (.int .i64 r) ∧ Below w.heap.size w w' := by
  have HR0 := Aside0.mk hr0
  have HC0 := Aside0.mk hc0
  clear hr0 hc0
  have HB := q_ (Below.refl w.heap.size w)
  have H : (laws_heldPairS.l0 k l0 a1 0) = some r := h
  clear h
  have H' := Aside0.mk H
  clear H
  go_enter Try.func25, Try.ntmps25
  go_wp2
  go_loopg [1, 5] k (fun kq v1 v5 w' => ∃ (x1_1 : Int) (x5_1 : Int), v1 = .int .i64 x1_1 ∧ v5 = .int .i64 x5_1 ∧ Aside0 (laws_heldPairS.l0 kq l0 x1_1 x5_1 = some r) ∧ Aside0 (kq ≤ k) ∧ Aside0 (Below w.heap.size w w'))
  case atStart => exact ⟨(a1), (0), rs_, rs_, H', ⟨Nat.le_refl _⟩, ⟨be_ HB.out⟩⟩
  case round =>
   clear H'
   try clear c2
   try clear p2
   obtain ⟨x1_1, x5_1, rfl, rfl, HA, HK1, HB⟩ := hrel
   cases gk with
   | zero => exact absurd HA.out (by simp [laws_heldPairS.l0])
   | succ k1 =>
    have H := HA.out
    clear HA
    simp only [laws_heldPairS.l0] at H
    by_cases c3 : x5_1 < (l0.length : Int)
    · rw [if_pos c3] at H
      have c3b0 : decide (x5_1 < (l0.length : Int)) = true := decide_eq_true c3
      clear c3
      by_cases c4 : 0 ≤ x5_1
      rotate_left
      · rw [if_neg c4] at H; exact absurd H (by simp)
      rw [if_pos c4] at H
      have c4b0 : decide (0 ≤ x5_1) = true := decide_eq_true c4
      clear c4
      replace H := Option.bind_eq_some_iff.mp H
      obtain ⟨t622, A50, H⟩ := H
      have A5 := Aside0.mk A50
      clear A50
      by_cases c6 : ((rd_T26 l0 x5_1).f0).toList = t622.toList
      rotate_left
      · rw [if_neg c6] at H
        have c6b0 : (((rd_T26 l0 x5_1).f0).toList == t622.toList) = false := beq_eq_false_iff_ne.mpr c6
        have c6b1 : (((rd_T26 l0 x5_1).f0).toList != t622.toList) = true := bne_iff_ne.mpr c6
        obtain rfl := Option.some.inj H
        try go_wp2
        replace HB := q_ (below_drew1 HB.out)
        have p621 : 0 ≤ (x5_1 : Int) := od_
        have q621 : x5_1 < (l0.length : Int) := od_
        obtain ⟨ad621, e621, hx621_0, hx621_1⟩ := at_T26 HR0.out x5_1 p621 q621
        have hw621_1 := hx621_1
        have hw621_0 := hx621_0
        cases e621
        replace hx621_0 := (HB.out.cell (World.block_lt_of_cell? w _ hx621_0)).trans hx621_0
        replace hx621_1 := (HB.out.cell (World.block_lt_of_cell? w _ hx621_1)).trans hx621_1
        replace p621 := eq_true p621
        replace q621 := eq_true q621
        refine start_ (n := 8) (S := fun w' => w'.cell? (ad621.add ((x5_1).toNat * 2)) = some (.string ((rd_T26 l0 x5_1).f0)) ∧ w'.cell? ⟨(ad621.add ((x5_1).toNat * 2)).block, (ad621.add ((x5_1).toNat * 2)).off + 1, none⟩ = some (.string ((rd_T26 l0 x5_1).f1))) (ds := []) (bq_ 0 8) (by kernel_rfl) rfl rfl ⟨((HB.out.cell (World.block_lt_of_cell? w _ hw621_0)).trans hw621_0), ((HB.out.cell (World.block_lt_of_cell? w _ hw621_1)).trans hw621_1)⟩ (fun hHeld => ?_); refine with_tabW laws_heldPairS.tab4 laws_heldPairS.bits4 (fun HT_ HW_ => ?_)
        generalize wr.drew = w17 at HB hx621_0 hx621_1 hHeld ⊢
        refine pu_ 0 (some 12) (bq_ 1 7) HT_ ?_
        refine pu_ 1 (some 13) (bq_ 2 6) HT_ ?_
        refine pu_ 2 (some 14) (bq_ 3 5) HT_ ?_
        refine pu_ 3 (some 15) (bq_ 4 4) HT_ ?_
        refine pu_ 5 (some 17) (br_ [4, 1, 1, 2]) HT_ ?_
        refine take_ (i := 4) (N := some 16) (v := ?_) (a' := ?_) (bq_ 6 2) rfl rfl (take_ofW HT_.out HW_.out (by kernel_rfl)) (fun _ _ _ h => h) (Or.inl ⟨by rfl, ?_⟩) hHeld ?_ ?_
        rotate_left
        · rintro w' ⟨s0, s1⟩
          go_simp
          with_reducible rfl
        rotate_left
        · simp only [Act.put, sa_, sz_, ss_, i64_w, i32_w]; rfl
        refine on_ 6 (some 18) (bq_ 7 1) HT_ (fun K hK => ?_)
        refine goes_ Try.func80 (by kernel_rfl) rfl #[.int .i64 x1_1] (by rfl) rfl rfl al_ ?_
        with_reducible refine (laws_markText.calls k1 x1_1 t622 _ A5.out).mono ?_
        rintro e w18 ⟨rfl, hb⟩
        refine ⟨_, rfl, ?_⟩
        replace HB := q_ (below_step (be_ HB.out) hb)
        (try clear hb)
        (try clear hb2)
        (try clear hk)
        (try clear hi)
        refine hK.out _ _ ⟨((HB.out.cell (World.block_lt_of_cell? w _ hw621_0)).trans hw621_0), ((HB.out.cell (World.block_lt_of_cell? w _ hw621_1)).trans hw621_1)⟩ (fun hHeld => ?_)
        clear hK K
        refine nm_ ?_
        refine pu_ 7 (some 19) (bq_ 8 0) HT_ ?_
        refine done_ (done_of HT_.out (by kernel_rfl)) ?_
        try go_wp2
        go_ret
        exact ⟨rf_, be_ HB.out⟩
      rw [if_pos c6] at H
      have c6b0 : (((rd_T26 l0 x5_1).f0).toList == t622.toList) = true := beq_iff_eq.mpr c6
      have c6b1 : (((rd_T26 l0 x5_1).f0).toList != t622.toList) = false := bne_eq_false_iff_eq.mpr c6
      clear c6
      replace H := Option.bind_eq_some_iff.mp H
      obtain ⟨t624, A70, H⟩ := H
      have A7 := Aside0.mk A70
      clear A70
      by_cases c8 : ((rd_T26 l0 x5_1).f1).toList = t624.toList
      rotate_left
      · rw [if_neg c8] at H
        have c8b0 : (((rd_T26 l0 x5_1).f1).toList == t624.toList) = false := beq_eq_false_iff_ne.mpr c8
        have c8b1 : (((rd_T26 l0 x5_1).f1).toList != t624.toList) = true := bne_iff_ne.mpr c8
        obtain rfl := Option.some.inj H
        try go_wp2
        replace HB := q_ (below_drew1 HB.out)
        have p621 : 0 ≤ (x5_1 : Int) := od_
        have q621 : x5_1 < (l0.length : Int) := od_
        obtain ⟨ad621, e621, hx621_0, hx621_1⟩ := at_T26 HR0.out x5_1 p621 q621
        have hw621_1 := hx621_1
        have hw621_0 := hx621_0
        cases e621
        replace hx621_0 := (HB.out.cell (World.block_lt_of_cell? w _ hx621_0)).trans hx621_0
        replace hx621_1 := (HB.out.cell (World.block_lt_of_cell? w _ hx621_1)).trans hx621_1
        replace p621 := eq_true p621
        replace q621 := eq_true q621
        refine start_ (n := 8) (S := fun w' => w'.cell? (ad621.add ((x5_1).toNat * 2)) = some (.string ((rd_T26 l0 x5_1).f0)) ∧ w'.cell? ⟨(ad621.add ((x5_1).toNat * 2)).block, (ad621.add ((x5_1).toNat * 2)).off + 1, none⟩ = some (.string ((rd_T26 l0 x5_1).f1))) (ds := []) (bq_ 0 8) (by kernel_rfl) rfl rfl ⟨((HB.out.cell (World.block_lt_of_cell? w _ hw621_0)).trans hw621_0), ((HB.out.cell (World.block_lt_of_cell? w _ hw621_1)).trans hw621_1)⟩ (fun hHeld => ?_); refine with_tabW laws_heldPairS.tab4 laws_heldPairS.bits4 (fun HT_ HW_ => ?_)
        generalize wr.drew = w13 at HB hx621_0 hx621_1 hHeld ⊢
        refine pu_ 0 (some 12) (bq_ 1 7) HT_ ?_
        refine pu_ 1 (some 13) (bq_ 2 6) HT_ ?_
        refine pu_ 2 (some 14) (bq_ 3 5) HT_ ?_
        refine pu_ 3 (some 15) (bq_ 4 4) HT_ ?_
        refine pu_ 5 (some 17) (br_ [4, 1, 1, 2]) HT_ ?_
        refine take_ (i := 4) (N := some 16) (v := ?_) (a' := ?_) (bq_ 6 2) rfl rfl (take_ofW HT_.out HW_.out (by kernel_rfl)) (fun _ _ _ h => h) (Or.inl ⟨by rfl, ?_⟩) hHeld ?_ ?_
        rotate_left
        · rintro w' ⟨s0, s1⟩
          go_simp
          with_reducible rfl
        rotate_left
        · simp only [Act.put, sa_, sz_, ss_, i64_w, i32_w]; rfl
        refine on_ 6 (some 18) (bq_ 7 1) HT_ (fun K hK => ?_)
        refine goes_ Try.func80 (by kernel_rfl) rfl #[.int .i64 x1_1] (by rfl) rfl rfl al_ ?_
        with_reducible refine (laws_markText.calls k1 x1_1 t622 _ A5.out).mono ?_
        rintro e w14 ⟨rfl, hb⟩
        refine ⟨_, rfl, ?_⟩
        replace HB := q_ (below_step (be_ HB.out) hb)
        (try clear hb)
        (try clear hb2)
        (try clear hk)
        (try clear hi)
        refine hK.out _ _ ⟨((HB.out.cell (World.block_lt_of_cell? w _ hw621_0)).trans hw621_0), ((HB.out.cell (World.block_lt_of_cell? w _ hw621_1)).trans hw621_1)⟩ (fun hHeld => ?_)
        clear hK K
        refine nm_ ?_
        refine pu_ 7 (some 19) (bq_ 8 0) HT_ ?_
        refine done_ (done_of HT_.out (by kernel_rfl)) ?_
        try go_wp2
        replace HB := q_ (below_drew1 HB.out)
        have p623 : 0 ≤ (x5_1 : Int) := od_
        have q623 : x5_1 < (l0.length : Int) := od_
        obtain ⟨ad623, e623, hx623_0, hx623_1⟩ := at_T26 HR0.out x5_1 p623 q623
        have hw623_1 := hx623_1
        have hw623_0 := hx623_0
        obtain rfl : ad621 = ad623 := (by injection e623)
        replace hx623_0 := (HB.out.cell (World.block_lt_of_cell? w _ hx623_0)).trans hx623_0
        replace hx623_1 := (HB.out.cell (World.block_lt_of_cell? w _ hx623_1)).trans hx623_1
        replace p623 := eq_true p623
        replace q623 := eq_true q623
        refine start_ (n := 8) (S := fun w' => w'.cell? (ad621.add ((x5_1).toNat * 2)) = some (.string ((rd_T26 l0 x5_1).f0)) ∧ w'.cell? ⟨(ad621.add ((x5_1).toNat * 2)).block, (ad621.add ((x5_1).toNat * 2)).off + 1, none⟩ = some (.string ((rd_T26 l0 x5_1).f1))) (ds := []) (bq_ 0 8) (by kernel_rfl) rfl rfl ⟨((HB.out.cell (World.block_lt_of_cell? w _ hw623_0)).trans hw623_0), ((HB.out.cell (World.block_lt_of_cell? w _ hw623_1)).trans hw623_1)⟩ (fun hHeld => ?_); refine with_tabW laws_heldPairS.tab7 laws_heldPairS.bits7 (fun HT_ HW_ => ?_)
        generalize w14.drew = w15 at HB hx623_0 hx623_1 hHeld ⊢
        refine pu_ 0 (some 22) (bq_ 1 7) HT_ ?_
        refine pu_ 1 (some 23) (bq_ 2 6) HT_ ?_
        refine pu_ 2 (some 24) (bq_ 3 5) HT_ ?_
        refine pu_ 3 (some 25) (bq_ 4 4) HT_ ?_
        refine pu_ 5 (some 27) (br_ [4, 1, 1, 2]) HT_ ?_
        refine take_ (i := 4) (N := some 26) (v := ?_) (a' := ?_) (bq_ 6 2) rfl rfl (take_ofW HT_.out HW_.out (by kernel_rfl)) (fun _ _ _ h => h) (Or.inl ⟨by rfl, ?_⟩) hHeld ?_ ?_
        rotate_left
        · rintro w' ⟨s0, s1⟩
          go_simp
          with_reducible rfl
        rotate_left
        · simp only [Act.put, sa_, sz_, ss_, i64_w, i32_w]; rfl
        refine on_ 6 (some 28) (bq_ 7 1) HT_ (fun K hK => ?_)
        refine goes_ Try.func80 (by kernel_rfl) rfl #[.int .i64 (wrap64 (x1_1 + 1))] (by rfl) rfl rfl al_ ?_
        with_reducible refine (laws_markText.calls k1 (wrap64 (x1_1 + 1)) t624 _ A7.out).mono ?_
        rintro e w16 ⟨rfl, hb⟩
        refine ⟨_, rfl, ?_⟩
        replace HB := q_ (below_step (be_ HB.out) hb)
        (try clear hb)
        (try clear hb2)
        (try clear hk)
        (try clear hi)
        refine hK.out _ _ ⟨((HB.out.cell (World.block_lt_of_cell? w _ hw623_0)).trans hw623_0), ((HB.out.cell (World.block_lt_of_cell? w _ hw623_1)).trans hw623_1)⟩ (fun hHeld => ?_)
        clear hK K
        refine nm_ ?_
        refine pu_ 7 (some 29) (bq_ 8 0) HT_ ?_
        refine done_ (done_of HT_.out (by kernel_rfl)) ?_
        try go_wp2
        go_ret
        exact ⟨rf_, be_ HB.out⟩
      rw [if_pos c8] at H
      have c8b0 : (((rd_T26 l0 x5_1).f1).toList == t624.toList) = true := beq_iff_eq.mpr c8
      have c8b1 : (((rd_T26 l0 x5_1).f1).toList != t624.toList) = false := bne_eq_false_iff_eq.mpr c8
      clear c8
      have H' := Aside0.mk H
      clear H
      try go_wp2
      replace HB := q_ (below_drew1 HB.out)
      have p621 : 0 ≤ (x5_1 : Int) := od_
      have q621 : x5_1 < (l0.length : Int) := od_
      obtain ⟨ad621, e621, hx621_0, hx621_1⟩ := at_T26 HR0.out x5_1 p621 q621
      have hw621_1 := hx621_1
      have hw621_0 := hx621_0
      cases e621
      replace hx621_0 := (HB.out.cell (World.block_lt_of_cell? w _ hx621_0)).trans hx621_0
      replace hx621_1 := (HB.out.cell (World.block_lt_of_cell? w _ hx621_1)).trans hx621_1
      replace p621 := eq_true p621
      replace q621 := eq_true q621
      refine start_ (n := 8) (S := fun w' => w'.cell? (ad621.add ((x5_1).toNat * 2)) = some (.string ((rd_T26 l0 x5_1).f0)) ∧ w'.cell? ⟨(ad621.add ((x5_1).toNat * 2)).block, (ad621.add ((x5_1).toNat * 2)).off + 1, none⟩ = some (.string ((rd_T26 l0 x5_1).f1))) (ds := []) (bq_ 0 8) (by kernel_rfl) rfl rfl ⟨((HB.out.cell (World.block_lt_of_cell? w _ hw621_0)).trans hw621_0), ((HB.out.cell (World.block_lt_of_cell? w _ hw621_1)).trans hw621_1)⟩ (fun hHeld => ?_); refine with_tabW laws_heldPairS.tab4 laws_heldPairS.bits4 (fun HT_ HW_ => ?_)
      generalize wr.drew = w9 at HB hx621_0 hx621_1 hHeld ⊢
      refine pu_ 0 (some 12) (bq_ 1 7) HT_ ?_
      refine pu_ 1 (some 13) (bq_ 2 6) HT_ ?_
      refine pu_ 2 (some 14) (bq_ 3 5) HT_ ?_
      refine pu_ 3 (some 15) (bq_ 4 4) HT_ ?_
      refine pu_ 5 (some 17) (br_ [4, 1, 1, 2]) HT_ ?_
      refine take_ (i := 4) (N := some 16) (v := ?_) (a' := ?_) (bq_ 6 2) rfl rfl (take_ofW HT_.out HW_.out (by kernel_rfl)) (fun _ _ _ h => h) (Or.inl ⟨by rfl, ?_⟩) hHeld ?_ ?_
      rotate_left
      · rintro w' ⟨s0, s1⟩
        go_simp
        with_reducible rfl
      rotate_left
      · simp only [Act.put, sa_, sz_, ss_, i64_w, i32_w]; rfl
      refine on_ 6 (some 18) (bq_ 7 1) HT_ (fun K hK => ?_)
      refine goes_ Try.func80 (by kernel_rfl) rfl #[.int .i64 x1_1] (by rfl) rfl rfl al_ ?_
      with_reducible refine (laws_markText.calls k1 x1_1 t622 _ A5.out).mono ?_
      rintro e w10 ⟨rfl, hb⟩
      refine ⟨_, rfl, ?_⟩
      replace HB := q_ (below_step (be_ HB.out) hb)
      (try clear hb)
      (try clear hb2)
      (try clear hk)
      (try clear hi)
      refine hK.out _ _ ⟨((HB.out.cell (World.block_lt_of_cell? w _ hw621_0)).trans hw621_0), ((HB.out.cell (World.block_lt_of_cell? w _ hw621_1)).trans hw621_1)⟩ (fun hHeld => ?_)
      clear hK K
      refine nm_ ?_
      refine pu_ 7 (some 19) (bq_ 8 0) HT_ ?_
      refine done_ (done_of HT_.out (by kernel_rfl)) ?_
      try go_wp2
      replace HB := q_ (below_drew1 HB.out)
      have p623 : 0 ≤ (x5_1 : Int) := od_
      have q623 : x5_1 < (l0.length : Int) := od_
      obtain ⟨ad623, e623, hx623_0, hx623_1⟩ := at_T26 HR0.out x5_1 p623 q623
      have hw623_1 := hx623_1
      have hw623_0 := hx623_0
      obtain rfl : ad621 = ad623 := (by injection e623)
      replace hx623_0 := (HB.out.cell (World.block_lt_of_cell? w _ hx623_0)).trans hx623_0
      replace hx623_1 := (HB.out.cell (World.block_lt_of_cell? w _ hx623_1)).trans hx623_1
      replace p623 := eq_true p623
      replace q623 := eq_true q623
      refine start_ (n := 8) (S := fun w' => w'.cell? (ad621.add ((x5_1).toNat * 2)) = some (.string ((rd_T26 l0 x5_1).f0)) ∧ w'.cell? ⟨(ad621.add ((x5_1).toNat * 2)).block, (ad621.add ((x5_1).toNat * 2)).off + 1, none⟩ = some (.string ((rd_T26 l0 x5_1).f1))) (ds := []) (bq_ 0 8) (by kernel_rfl) rfl rfl ⟨((HB.out.cell (World.block_lt_of_cell? w _ hw623_0)).trans hw623_0), ((HB.out.cell (World.block_lt_of_cell? w _ hw623_1)).trans hw623_1)⟩ (fun hHeld => ?_); refine with_tabW laws_heldPairS.tab7 laws_heldPairS.bits7 (fun HT_ HW_ => ?_)
      generalize w10.drew = w11 at HB hx623_0 hx623_1 hHeld ⊢
      refine pu_ 0 (some 22) (bq_ 1 7) HT_ ?_
      refine pu_ 1 (some 23) (bq_ 2 6) HT_ ?_
      refine pu_ 2 (some 24) (bq_ 3 5) HT_ ?_
      refine pu_ 3 (some 25) (bq_ 4 4) HT_ ?_
      refine pu_ 5 (some 27) (br_ [4, 1, 1, 2]) HT_ ?_
      refine take_ (i := 4) (N := some 26) (v := ?_) (a' := ?_) (bq_ 6 2) rfl rfl (take_ofW HT_.out HW_.out (by kernel_rfl)) (fun _ _ _ h => h) (Or.inl ⟨by rfl, ?_⟩) hHeld ?_ ?_
      rotate_left
      · rintro w' ⟨s0, s1⟩
        go_simp
        with_reducible rfl
      rotate_left
      · simp only [Act.put, sa_, sz_, ss_, i64_w, i32_w]; rfl
      refine on_ 6 (some 28) (bq_ 7 1) HT_ (fun K hK => ?_)
      refine goes_ Try.func80 (by kernel_rfl) rfl #[.int .i64 (wrap64 (x1_1 + 1))] (by rfl) rfl rfl al_ ?_
      with_reducible refine (laws_markText.calls k1 (wrap64 (x1_1 + 1)) t624 _ A7.out).mono ?_
      rintro e w12 ⟨rfl, hb⟩
      refine ⟨_, rfl, ?_⟩
      replace HB := q_ (below_step (be_ HB.out) hb)
      (try clear hb)
      (try clear hb2)
      (try clear hk)
      (try clear hi)
      refine hK.out _ _ ⟨((HB.out.cell (World.block_lt_of_cell? w _ hw623_0)).trans hw623_0), ((HB.out.cell (World.block_lt_of_cell? w _ hw623_1)).trans hw623_1)⟩ (fun hHeld => ?_)
      clear hK K
      refine nm_ ?_
      refine pu_ 7 (some 29) (bq_ 8 0) HT_ ?_
      refine done_ (done_of HT_.out (by kernel_rfl)) ?_
      try go_wp2
      go_roundg k1
      case measure => have := HK1.out; omega
      case rel => exact ⟨(wrap64 ((wrap64 (x1_1 + 1)) + 1)), (wrap64 (x5_1 + 1)), rs_, rs_, H', ⟨by have := HK1.out; omega⟩, ⟨be_ HB.out⟩⟩
    · rw [if_neg c3] at H
      have c3b0 : decide (x5_1 < (l0.length : Int)) = false := decide_eq_false c3
      clear c3
      obtain rfl := Option.some.inj H
      go_wp2
      go_ret
      exact ⟨rf_, be_ HB.out⟩

end Go.Proofs.Ytgaalomhipfgjaa.P
