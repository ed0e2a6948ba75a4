-- Written by wip/xp/xp.py over the kit's print; Lean checks it.
import Derived.Test.YtbelaenekbflfaaPx0
import Derived.Test.YtbelaenekbflfaaPx11
namespace Go.Proofs.Ytbelaenekbflfaa.P
open Go.RowKit Go.Proofs.YtbelaenekbflfaaW.PrintWords Go.Proofs.YtbelaenekbflfaaW.PrintLast Go.Proofs.YtbelaenekbflfaaW.PrintMore
attribute [local go_sem] max2_int min2_int max_two min_two max_three min_three max_four min_four   -- for this text's walks alone
set_option linter.unusedVariables false
set_option linter.unusedSimpArgs false

/-! ###  laws_heldItemS: function 55 -/
def laws_heldItemS.l0 : Nat → List (S79) → Int → Int → Option (Int)
  | 0, _, _, _ => none
  | k + 1, x0, x1, x5 => if x5 < (x0.length : Int) then (if 0 ≤ x5 then ((laws_markText.f k x1).bind fun t489 => (if ((rd_T79 x0 x5).f0.f0).toList = t489.toList then ((laws_markText.f k (wrap64 (x1 + 1))).bind fun t491 => (if ((rd_T79 x0 x5).f0.f1).toList = t491.toList then ((laws_heldStringS.f k ((rd_T79 x0 x5).f1) (wrap64 ((wrap64 (x1 + 1)) + 1))).bind fun t493 => (if t493 < 0 then (some (-1)) else (laws_heldItemS.l0 k x0 t493 (wrap64 (x5 + 1))))) else (some (-1)))) else (some (-1)))) else (none)) else (some x1)
def laws_heldItemS.f (k : Nat) (l0 : List (S79)) (a1 : Int) : Option (Int) := laws_heldItemS.l0 k l0 a1 0
def laws_heldItemS.T4 : Bool × List (List Nat × List Nat) := (true, [([], []), ([], []), ([0, 1], [0, 1]), ([2], [2]), ([3], [3]), ([4], [4]), ([], []), ([6], [6]), ([5, 7], [5, 7])])
def laws_heldItemS.B4 : List Nat := [0, 0, 3, 7, 15, 31, 0, 64, 255]
theorem laws_heldItemS.tab4 : rtab .any (opsOf Try.f55 4) = laws_heldItemS.T4 := by kernel_rfl
theorem laws_heldItemS.bits4 : waitsOk laws_heldItemS.T4.2 laws_heldItemS.B4 = true := by kernel_rfl
def laws_heldItemS.T7 : Bool × List (List Nat × List Nat) := (true, [([], []), ([], []), ([0, 1], [0, 1]), ([2], [2]), ([3], [3]), ([4], [4]), ([], []), ([6], [6]), ([5, 7], [5, 7])])
def laws_heldItemS.B7 : List Nat := [0, 0, 3, 7, 15, 31, 0, 64, 255]
theorem laws_heldItemS.tab7 : rtab .any (opsOf Try.f55 7) = laws_heldItemS.T7 := by kernel_rfl
theorem laws_heldItemS.bits7 : waitsOk laws_heldItemS.T7.2 laws_heldItemS.B7 = true := by kernel_rfl
set_option maxHeartbeats 8000000 in
set_option maxRecDepth 100000 in
theorem laws_heldItemS.calls (k : Nat) (A0 : Option Addr) (c0 : Nat) (l0 : List (S79)) (a1 : Int) (r : Int) (w : World) (hr0 : Kd.C k79 w A0 l0.length l0) (hc0 : l0.length ≤ c0) (h : laws_heldItemS.f k l0 a1 = some r) :
  Calls Try.prog 55 #[.slice A0 l0.length c0, .int .i64 a1] w fun e w' => e = .returned (.int .i64 r) ∧ Below w.heap.size w w' := by
  have HR0 := Aside0.mk hr0
  have HC0 := Aside0.mk hc0
  clear hr0 hc0
  have HB := Aside0.mk (Below.refl w.heap.size w)
  have H : (laws_heldItemS.l0 k l0 a1 0) = some r := h
  clear h
  have H' := Aside0.mk H
  clear H
  go_enter Try.func55, Try.ntmps55
  go_wp2
  go_loopg [1, 5] k (fun kq v1 v5 w' => ∃ (x1_1 : Int) (x5_1 : Int), v1 = .int .i64 x1_1 ∧ v5 = .int .i64 x5_1 ∧ Aside0 (laws_heldItemS.l0 kq l0 x1_1 x5_1 = some r) ∧ Aside0 (kq ≤ k) ∧ Aside0 (Below w.heap.size w w'))
  case atStart => exact ⟨(a1), (0), (by first | rfl | (simp; done) | (simp [*]; done)), (by first | rfl | (simp; done) | (simp [*]; done)), H', ⟨Nat.le_refl _⟩, ⟨be_ HB.out⟩⟩
  case round =>
   clear H'
   try clear p2
   obtain ⟨x1_1, x5_1, rfl, rfl, HA, HK1, HB⟩ := hrel
   cases gk with
   | zero => exact absurd HA.out (by simp [laws_heldItemS.l0])
   | succ k1 =>
    have H := HA.out
    clear HA
    simp only [laws_heldItemS.l0] at H
    by_cases c3 : x5_1 < (l0.length : Int)
    · rw [if_pos c3] at H
      have c3b0 : decide (x5_1 < (l0.length : Int)) = true := decide_eq_true c3
      clear c3
      by_cases c4 : 0 ≤ x5_1
      rotate_left
      · rw [if_neg c4] at H; exact absurd H (by simp)
      rw [if_pos c4] at H
      have c4b0 : decide (0 ≤ x5_1) = true := decide_eq_true c4
      clear c4
      replace H := Option.bind_eq_some_iff.mp H
      obtain ⟨t489, A50, H⟩ := H
      have A5 := Aside0.mk A50
      clear A50
      by_cases c6 : ((rd_T79 l0 x5_1).f0.f0).toList = t489.toList
      · rw [if_pos c6] at H
        have c6b0 : (((rd_T79 l0 x5_1).f0.f0).toList == t489.toList) = true := beq_iff_eq.mpr c6
        have c6b1 : (((rd_T79 l0 x5_1).f0.f0).toList != t489.toList) = false := bne_eq_false_iff_eq.mpr c6
        clear c6
        replace H := Option.bind_eq_some_iff.mp H
        obtain ⟨t491, A70, H⟩ := H
        have A7 := Aside0.mk A70
        clear A70
        by_cases c8 : ((rd_T79 l0 x5_1).f0.f1).toList = t491.toList
        · rw [if_pos c8] at H
          have c8b0 : (((rd_T79 l0 x5_1).f0.f1).toList == t491.toList) = true := beq_iff_eq.mpr c8
          have c8b1 : (((rd_T79 l0 x5_1).f0.f1).toList != t491.toList) = false := bne_eq_false_iff_eq.mpr c8
          clear c8
          replace H := Option.bind_eq_some_iff.mp H
          obtain ⟨t493, A90, H⟩ := H
          have A9 := Aside0.mk A90
          clear A90
          by_cases c10 : t493 < 0
          · rw [if_pos c10] at H
            have c10b0 : decide (t493 < 0) = true := decide_eq_true c10
            clear c10
            obtain rfl := Option.some.inj H
            try go_wp2
            have n0_ := Aside0.mk (below_drew1 HB.out)
            clear HB
            have HB := n0_
            clear n0_
            have p488 : 0 ≤ (x5_1 : Int) := of_decide_eq_true (by first | (with_reducible assumption) | assumption)
            have q488 : x5_1 < (l0.length : Int) := of_decide_eq_true (by first | (with_reducible assumption) | assumption)
            obtain ⟨ad488, A488_2, c488_2, e488, hx488_0, hx488_1, hx488_2, hl488_2, hi488_2⟩ := at_T79 HR0.out x5_1 p488 q488
            have hw488_2 := hx488_2
            have hw488_1 := hx488_1
            have hw488_0 := hx488_0
            cases e488
            replace hx488_0 := (HB.out.cell (World.block_lt_of_cell? w _ hx488_0)).trans hx488_0
            replace hx488_1 := (HB.out.cell (World.block_lt_of_cell? w _ hx488_1)).trans hx488_1
            replace hx488_2 := (HB.out.cell (World.block_lt_of_cell? w _ hx488_2)).trans hx488_2
            have HR488_2 := Aside0.mk hi488_2
            have HC488_2 := Aside0.mk hl488_2
            clear hi488_2 hl488_2
            replace p488 := eq_true p488
            replace q488 := eq_true q488
            refine start_ (n := 9) (S := fun w' => w'.cell? (ad488.add ((x5_1).toNat * 3)) = some (.string ((rd_T79 l0 x5_1).f0.f0)) ∧ w'.cell? ⟨(ad488.add ((x5_1).toNat * 3)).block, (ad488.add ((x5_1).toNat * 3)).off + 1, none⟩ = some (.string ((rd_T79 l0 x5_1).f0.f1)) ∧ w'.cell? ⟨(ad488.add ((x5_1).toNat * 3)).block, (ad488.add ((x5_1).toNat * 3)).off + 2, none⟩ = some (.slice A488_2 ((rd_T79 l0 x5_1).f1).length c488_2)) (ds := []) (bq_ 0 9) (by kernel_rfl) rfl rfl ⟨((HB.out.cell (World.block_lt_of_cell? w _ hw488_0)).trans hw488_0), ((HB.out.cell (World.block_lt_of_cell? w _ hw488_1)).trans hw488_1), ((HB.out.cell (World.block_lt_of_cell? w _ hw488_2)).trans hw488_2)⟩ (fun hHeld => ?_); refine with_tabW laws_heldItemS.tab4 laws_heldItemS.bits4 (fun HT_ HW_ => ?_)
            generalize wr.drew = w11 at HB HR488_2 hx488_0 hx488_1 hx488_2 hHeld ⊢
            refine pu_ 0 (some 12) (bq_ 1 8) HT_ ?_
            refine pu_ 1 (some 13) (bq_ 2 7) HT_ ?_
            refine pu_ 2 (some 14) (bq_ 3 6) HT_ ?_
            refine pu_ 3 (some 15) (bq_ 4 5) HT_ ?_
            refine pu_ 4 (some 16) (bq_ 5 4) HT_ ?_
            refine pu_ 6 (some 18) #[true, true, true, true, true, false, true, false, false] HT_ ?_
            refine take_ (i := 5) (N := some 17) (v := ?_) (a' := ?_) (bq_ 7 2) rfl rfl (take_ofW HT_.out HW_.out (by kernel_rfl)) (fun _ _ _ h => h) (Or.inl ⟨by rfl, ?_⟩) hHeld ?_ ?_
            rotate_left
            · rintro w' ⟨s0, s1, s2⟩
              go_simp
              with_reducible rfl
            rotate_left
            · simp only [Act.put, sa_, sz_, ss_, i64_w, i32_w]; rfl
            refine on_ 7 (some 19) (bq_ 8 1) HT_ (fun K hK => ?_)
            refine goes_ Try.func53 (by kernel_rfl) rfl #[.int .i64 x1_1] (by rfl) rfl rfl al_ ?_
            with_reducible refine (laws_markText.calls k1 x1_1 t489 _ A5.out).mono ?_
            rintro e w12 ⟨rfl, hb⟩
            refine ⟨_, rfl, ?_⟩
            have n0_ := Aside0.mk (below_step (be_ HB.out) hb)
            clear HB
            have HB := n0_
            clear n0_
            (try clear hb)
            (try clear hb2)
            (try clear hk)
            (try clear hi)
            refine hK.out _ _ ⟨((HB.out.cell (World.block_lt_of_cell? w _ hw488_0)).trans hw488_0), ((HB.out.cell (World.block_lt_of_cell? w _ hw488_1)).trans hw488_1), ((HB.out.cell (World.block_lt_of_cell? w _ hw488_2)).trans hw488_2)⟩ (fun hHeld => ?_)
            clear hK K
            refine nm_ ?_
            refine pu_ 8 (some 20) (bq_ 9 0) HT_ ?_
            refine done_ (done_of HT_.out (by kernel_rfl)) ?_
            try go_wp2
            have n0_ := Aside0.mk (below_drew1 HB.out)
            clear HB
            have HB := n0_
            clear n0_
            have p490 : 0 ≤ (x5_1 : Int) := of_decide_eq_true (by first | (with_reducible assumption) | assumption)
            have q490 : x5_1 < (l0.length : Int) := of_decide_eq_true (by first | (with_reducible assumption) | assumption)
            try clear hx488_2
            try clear hx488_1
            try clear hx488_0
            try clear hw488_2
            try clear hw488_1
            try clear hw488_0
            try clear hHeld
            obtain ⟨ad490, A490_2, c490_2, e490, hx490_0, hx490_1, hx490_2, hl490_2, hi490_2⟩ := at_T79 HR0.out x5_1 p490 q490
            have hw490_2 := hx490_2
            have hw490_1 := hx490_1
            have hw490_0 := hx490_0
            obtain rfl : ad488 = ad490 := (by injection e490)
            replace hx490_0 := (HB.out.cell (World.block_lt_of_cell? w _ hx490_0)).trans hx490_0
            replace hx490_1 := (HB.out.cell (World.block_lt_of_cell? w _ hx490_1)).trans hx490_1
            replace hx490_2 := (HB.out.cell (World.block_lt_of_cell? w _ hx490_2)).trans hx490_2
            have HR490_2 := Aside0.mk hi490_2
            have HC490_2 := Aside0.mk hl490_2
            clear hi490_2 hl490_2
            replace p490 := eq_true p490
            replace q490 := eq_true q490
            refine start_ (n := 9) (S := fun w' => w'.cell? (ad488.add ((x5_1).toNat * 3)) = some (.string ((rd_T79 l0 x5_1).f0.f0)) ∧ w'.cell? ⟨(ad488.add ((x5_1).toNat * 3)).block, (ad488.add ((x5_1).toNat * 3)).off + 1, none⟩ = some (.string ((rd_T79 l0 x5_1).f0.f1)) ∧ w'.cell? ⟨(ad488.add ((x5_1).toNat * 3)).block, (ad488.add ((x5_1).toNat * 3)).off + 2, none⟩ = some (.slice A490_2 ((rd_T79 l0 x5_1).f1).length c490_2)) (ds := []) (bq_ 0 9) (by kernel_rfl) rfl rfl ⟨((HB.out.cell (World.block_lt_of_cell? w _ hw490_0)).trans hw490_0), ((HB.out.cell (World.block_lt_of_cell? w _ hw490_1)).trans hw490_1), ((HB.out.cell (World.block_lt_of_cell? w _ hw490_2)).trans hw490_2)⟩ (fun hHeld => ?_); refine with_tabW laws_heldItemS.tab7 laws_heldItemS.bits7 (fun HT_ HW_ => ?_)
            generalize w12.drew = w13 at HB HR490_2 hx490_0 hx490_1 hx490_2 hHeld ⊢
            refine pu_ 0 (some 23) (bq_ 1 8) HT_ ?_
            refine pu_ 1 (some 24) (bq_ 2 7) HT_ ?_
            refine pu_ 2 (some 25) (bq_ 3 6) HT_ ?_
            refine pu_ 3 (some 26) (bq_ 4 5) HT_ ?_
            refine pu_ 4 (some 27) (bq_ 5 4) HT_ ?_
            refine pu_ 6 (some 29) #[true, true, true, true, true, false, true, false, false] HT_ ?_
            refine take_ (i := 5) (N := some 28) (v := ?_) (a' := ?_) (bq_ 7 2) rfl rfl (take_ofW HT_.out HW_.out (by kernel_rfl)) (fun _ _ _ h => h) (Or.inl ⟨by rfl, ?_⟩) hHeld ?_ ?_
            rotate_left
            · rintro w' ⟨s0, s1, s2⟩
              go_simp
              with_reducible rfl
            rotate_left
            · simp only [Act.put, sa_, sz_, ss_, i64_w, i32_w]; rfl
            refine on_ 7 (some 30) (bq_ 8 1) HT_ (fun K hK => ?_)
            refine goes_ Try.func53 (by kernel_rfl) rfl #[.int .i64 (wrap64 (x1_1 + 1))] (by rfl) rfl rfl al_ ?_
            with_reducible refine (laws_markText.calls k1 (wrap64 (x1_1 + 1)) t491 _ A7.out).mono ?_
            rintro e w14 ⟨rfl, hb⟩
            refine ⟨_, rfl, ?_⟩
            have n0_ := Aside0.mk (below_step (be_ HB.out) hb)
            clear HB
            have HB := n0_
            clear n0_
            (try clear hb)
            (try clear hb2)
            (try clear hk)
            (try clear hi)
            refine hK.out _ _ ⟨((HB.out.cell (World.block_lt_of_cell? w _ hw490_0)).trans hw490_0), ((HB.out.cell (World.block_lt_of_cell? w _ hw490_1)).trans hw490_1), ((HB.out.cell (World.block_lt_of_cell? w _ hw490_2)).trans hw490_2)⟩ (fun hHeld => ?_)
            clear hK K
            refine nm_ ?_
            refine pu_ 8 (some 31) (bq_ 9 0) HT_ ?_
            refine done_ (done_of HT_.out (by kernel_rfl)) ?_
            have p492 : 0 ≤ (x5_1 : Int) := of_decide_eq_true (by first | (with_reducible assumption) | assumption)
            have q492 : x5_1 < (l0.length : Int) := of_decide_eq_true (by first | (with_reducible assumption) | assumption)
            try clear hx488_2
            try clear hx488_1
            try clear hx488_0
            try clear hw488_2
            try clear hw488_1
            try clear hw488_0
            try clear hx490_2
            try clear hx490_1
            try clear hx490_0
            try clear hw490_2
            try clear hw490_1
            try clear hw490_0
            try clear hHeld
            obtain ⟨ad492, A492_2, c492_2, e492, hx492_0, hx492_1, hx492_2, hl492_2, hi492_2⟩ := at_T79 HR0.out x5_1 p492 q492
            obtain rfl : ad488 = ad492 := (by injection e492)
            replace hx492_0 := (HB.out.cell (World.block_lt_of_cell? w _ hx492_0)).trans hx492_0
            replace hx492_1 := (HB.out.cell (World.block_lt_of_cell? w _ hx492_1)).trans hx492_1
            replace hx492_2 := (HB.out.cell (World.block_lt_of_cell? w _ hx492_2)).trans hx492_2
            have HR492_2 := Aside0.mk hi492_2
            have HC492_2 := Aside0.mk hl492_2
            clear hi492_2 hl492_2
            replace p492 := eq_true p492
            replace q492 := eq_true q492
            try go_wp2_with (first | ((with_reducible refine gate_callee (f := 81) rfl ?_); refine goesL_ (some 40) rfl rfl Try.func81 (by kernel_rfl) rfl #[.slice A492_2 ((rd_T79 l0 x5_1).f1).length c492_2, .int .i64 (wrap64 ((wrap64 (x1_1 + 1)) + 1))] rfl al_ ?_; (with_reducible refine (laws_heldStringS.calls k1 _ _ ((rd_T79 l0 x5_1).f1) (wrap64 ((wrap64 (x1_1 + 1)) + 1)) t493 _ ?side1 ?side2 A9.out).mono ?_); (case side1 => exact kc_ (Kd.C_below HR492_2.out HB.out)); (case side2 => exact HC492_2.out); rintro e w15 ⟨rfl, hb⟩; refine ⟨_, rfl, ?_⟩; have n0_ := Aside0.mk (below_step (be_ HB.out) hb); clear HB; have HB := n0_; clear n0_; (try clear hb); (try clear hb2); (try clear hk); (try clear hi)))
            go_ret
            exact ⟨by first | rfl | (simp [errW_none, errW_some] <;> rfl) | (simp [*, errW_none, errW_some] <;> rfl), be_ HB.out⟩
          · rw [if_neg c10] at H
            have c10b0 : decide (t493 < 0) = false := decide_eq_false c10
            clear c10
            have H' := Aside0.mk H
            clear H
            try go_wp2
            have n0_ := Aside0.mk (below_drew1 HB.out)
            clear HB
            have HB := n0_
            clear n0_
            have p488 : 0 ≤ (x5_1 : Int) := of_decide_eq_true (by first | (with_reducible assumption) | assumption)
            have q488 : x5_1 < (l0.length : Int) := of_decide_eq_true (by first | (with_reducible assumption) | assumption)
            try clear hx490_2
            try clear hx490_1
            try clear hx490_0
            try clear hw490_2
            try clear hw490_1
            try clear hw490_0
            try clear hx492_2
            try clear hx492_1
            try clear hx492_0
            try clear hw492_2
            try clear hw492_1
            try clear hw492_0
            obtain ⟨ad488, A488_2, c488_2, e488, hx488_0, hx488_1, hx488_2, hl488_2, hi488_2⟩ := at_T79 HR0.out x5_1 p488 q488
            have hw488_2 := hx488_2
            have hw488_1 := hx488_1
            have hw488_0 := hx488_0
            cases e488
            replace hx488_0 := (HB.out.cell (World.block_lt_of_cell? w _ hx488_0)).trans hx488_0
            replace hx488_1 := (HB.out.cell (World.block_lt_of_cell? w _ hx488_1)).trans hx488_1
            replace hx488_2 := (HB.out.cell (World.block_lt_of_cell? w _ hx488_2)).trans hx488_2
            have HR488_2 := Aside0.mk hi488_2
            have HC488_2 := Aside0.mk hl488_2
            clear hi488_2 hl488_2
            replace p488 := eq_true p488
            replace q488 := eq_true q488
            refine start_ (n := 9) (S := fun w' => w'.cell? (ad488.add ((x5_1).toNat * 3)) = some (.string ((rd_T79 l0 x5_1).f0.f0)) ∧ w'.cell? ⟨(ad488.add ((x5_1).toNat * 3)).block, (ad488.add ((x5_1).toNat * 3)).off + 1, none⟩ = some (.string ((rd_T79 l0 x5_1).f0.f1)) ∧ w'.cell? ⟨(ad488.add ((x5_1).toNat * 3)).block, (ad488.add ((x5_1).toNat * 3)).off + 2, none⟩ = some (.slice A488_2 ((rd_T79 l0 x5_1).f1).length c488_2)) (ds := []) (bq_ 0 9) (by kernel_rfl) rfl rfl ⟨((HB.out.cell (World.block_lt_of_cell? w _ hw488_0)).trans hw488_0), ((HB.out.cell (World.block_lt_of_cell? w _ hw488_1)).trans hw488_1), ((HB.out.cell (World.block_lt_of_cell? w _ hw488_2)).trans hw488_2)⟩ (fun hHeld => ?_); refine with_tabW laws_heldItemS.tab4 laws_heldItemS.bits4 (fun HT_ HW_ => ?_)
            generalize wr.drew = w16 at HB HR488_2 hx488_0 hx488_1 hx488_2 hHeld ⊢
            refine pu_ 0 (some 12) (bq_ 1 8) HT_ ?_
            refine pu_ 1 (some 13) (bq_ 2 7) HT_ ?_
            refine pu_ 2 (some 14) (bq_ 3 6) HT_ ?_
            refine pu_ 3 (some 15) (bq_ 4 5) HT_ ?_
            refine pu_ 4 (some 16) (bq_ 5 4) HT_ ?_
            refine pu_ 6 (some 18) #[true, true, true, true, true, false, true, false, false] HT_ ?_
            refine take_ (i := 5) (N := some 17) (v := ?_) (a' := ?_) (bq_ 7 2) rfl rfl (take_ofW HT_.out HW_.out (by kernel_rfl)) (fun _ _ _ h => h) (Or.inl ⟨by rfl, ?_⟩) hHeld ?_ ?_
            rotate_left
            · rintro w' ⟨s0, s1, s2⟩
              go_simp
              with_reducible rfl
            rotate_left
            · simp only [Act.put, sa_, sz_, ss_, i64_w, i32_w]; rfl
            refine on_ 7 (some 19) (bq_ 8 1) HT_ (fun K hK => ?_)
            refine goes_ Try.func53 (by kernel_rfl) rfl #[.int .i64 x1_1] (by rfl) rfl rfl al_ ?_
            with_reducible refine (laws_markText.calls k1 x1_1 t489 _ A5.out).mono ?_
            rintro e w17 ⟨rfl, hb⟩
            refine ⟨_, rfl, ?_⟩
            have n0_ := Aside0.mk (below_step (be_ HB.out) hb)
            clear HB
            have HB := n0_
            clear n0_
            (try clear hb)
            (try clear hb2)
            (try clear hk)
            (try clear hi)
            refine hK.out _ _ ⟨((HB.out.cell (World.block_lt_of_cell? w _ hw488_0)).trans hw488_0), ((HB.out.cell (World.block_lt_of_cell? w _ hw488_1)).trans hw488_1), ((HB.out.cell (World.block_lt_of_cell? w _ hw488_2)).trans hw488_2)⟩ (fun hHeld => ?_)
            clear hK K
            refine nm_ ?_
            refine pu_ 8 (some 20) (bq_ 9 0) HT_ ?_
            refine done_ (done_of HT_.out (by kernel_rfl)) ?_
            try go_wp2
            have n0_ := Aside0.mk (below_drew1 HB.out)
            clear HB
            have HB := n0_
            clear n0_
            have p490 : 0 ≤ (x5_1 : Int) := of_decide_eq_true (by first | (with_reducible assumption) | assumption)
            have q490 : x5_1 < (l0.length : Int) := of_decide_eq_true (by first | (with_reducible assumption) | assumption)
            try clear hx488_2
            try clear hx488_1
            try clear hx488_0
            try clear hw488_2
            try clear hw488_1
            try clear hw488_0
            try clear hx492_2
            try clear hx492_1
            try clear hx492_0
            try clear hw492_2
            try clear hw492_1
            try clear hw492_0
            try clear hHeld
            obtain ⟨ad490, A490_2, c490_2, e490, hx490_0, hx490_1, hx490_2, hl490_2, hi490_2⟩ := at_T79 HR0.out x5_1 p490 q490
            have hw490_2 := hx490_2
            have hw490_1 := hx490_1
            have hw490_0 := hx490_0
            obtain rfl : ad488 = ad490 := (by injection e490)
            replace hx490_0 := (HB.out.cell (World.block_lt_of_cell? w _ hx490_0)).trans hx490_0
            replace hx490_1 := (HB.out.cell (World.block_lt_of_cell? w _ hx490_1)).trans hx490_1
            replace hx490_2 := (HB.out.cell (World.block_lt_of_cell? w _ hx490_2)).trans hx490_2
            have HR490_2 := Aside0.mk hi490_2
            have HC490_2 := Aside0.mk hl490_2
            clear hi490_2 hl490_2
            replace p490 := eq_true p490
            replace q490 := eq_true q490
            refine start_ (n := 9) (S := fun w' => w'.cell? (ad488.add ((x5_1).toNat * 3)) = some (.string ((rd_T79 l0 x5_1).f0.f0)) ∧ w'.cell? ⟨(ad488.add ((x5_1).toNat * 3)).block, (ad488.add ((x5_1).toNat * 3)).off + 1, none⟩ = some (.string ((rd_T79 l0 x5_1).f0.f1)) ∧ w'.cell? ⟨(ad488.add ((x5_1).toNat * 3)).block, (ad488.add ((x5_1).toNat * 3)).off + 2, none⟩ = some (.slice A490_2 ((rd_T79 l0 x5_1).f1).length c490_2)) (ds := []) (bq_ 0 9) (by kernel_rfl) rfl rfl ⟨((HB.out.cell (World.block_lt_of_cell? w _ hw490_0)).trans hw490_0), ((HB.out.cell (World.block_lt_of_cell? w _ hw490_1)).trans hw490_1), ((HB.out.cell (World.block_lt_of_cell? w _ hw490_2)).trans hw490_2)⟩ (fun hHeld => ?_); refine with_tabW laws_heldItemS.tab7 laws_heldItemS.bits7 (fun HT_ HW_ => ?_)
            generalize w17.drew = w18 at HB HR490_2 hx490_0 hx490_1 hx490_2 hHeld ⊢
            refine pu_ 0 (some 23) (bq_ 1 8) HT_ ?_
            refine pu_ 1 (some 24) (bq_ 2 7) HT_ ?_
            refine pu_ 2 (some 25) (bq_ 3 6) HT_ ?_
            refine pu_ 3 (some 26) (bq_ 4 5) HT_ ?_
            refine pu_ 4 (some 27) (bq_ 5 4) HT_ ?_
            refine pu_ 6 (some 29) #[true, true, true, true, true, false, true, false, false] HT_ ?_
            refine take_ (i := 5) (N := some 28) (v := ?_) (a' := ?_) (bq_ 7 2) rfl rfl (take_ofW HT_.out HW_.out (by kernel_rfl)) (fun _ _ _ h => h) (Or.inl ⟨by rfl, ?_⟩) hHeld ?_ ?_
            rotate_left
            · rintro w' ⟨s0, s1, s2⟩
              go_simp
              with_reducible rfl
            rotate_left
            · simp only [Act.put, sa_, sz_, ss_, i64_w, i32_w]; rfl
            refine on_ 7 (some 30) (bq_ 8 1) HT_ (fun K hK => ?_)
            refine goes_ Try.func53 (by kernel_rfl) rfl #[.int .i64 (wrap64 (x1_1 + 1))] (by rfl) rfl rfl al_ ?_
            with_reducible refine (laws_markText.calls k1 (wrap64 (x1_1 + 1)) t491 _ A7.out).mono ?_
            rintro e w19 ⟨rfl, hb⟩
            refine ⟨_, rfl, ?_⟩
            have n0_ := Aside0.mk (below_step (be_ HB.out) hb)
            clear HB
            have HB := n0_
            clear n0_
            (try clear hb)
            (try clear hb2)
            (try clear hk)
            (try clear hi)
            refine hK.out _ _ ⟨((HB.out.cell (World.block_lt_of_cell? w _ hw490_0)).trans hw490_0), ((HB.out.cell (World.block_lt_of_cell? w _ hw490_1)).trans hw490_1), ((HB.out.cell (World.block_lt_of_cell? w _ hw490_2)).trans hw490_2)⟩ (fun hHeld => ?_)
            clear hK K
            refine nm_ ?_
            refine pu_ 8 (some 31) (bq_ 9 0) HT_ ?_
            refine done_ (done_of HT_.out (by kernel_rfl)) ?_
            have p492 : 0 ≤ (x5_1 : Int) := of_decide_eq_true (by first | (with_reducible assumption) | assumption)
            have q492 : x5_1 < (l0.length : Int) := of_decide_eq_true (by first | (with_reducible assumption) | assumption)
            try clear hx488_2
            try clear hx488_1
            try clear hx488_0
            try clear hw488_2
            try clear hw488_1
            try clear hw488_0
            try clear hx490_2
            try clear hx490_1
            try clear hx490_0
            try clear hw490_2
            try clear hw490_1
            try clear hw490_0
            try clear hHeld
            obtain ⟨ad492, A492_2, c492_2, e492, hx492_0, hx492_1, hx492_2, hl492_2, hi492_2⟩ := at_T79 HR0.out x5_1 p492 q492
            obtain rfl : ad488 = ad492 := (by injection e492)
            replace hx492_0 := (HB.out.cell (World.block_lt_of_cell? w _ hx492_0)).trans hx492_0
            replace hx492_1 := (HB.out.cell (World.block_lt_of_cell? w _ hx492_1)).trans hx492_1
            replace hx492_2 := (HB.out.cell (World.block_lt_of_cell? w _ hx492_2)).trans hx492_2
            have HR492_2 := Aside0.mk hi492_2
            have HC492_2 := Aside0.mk hl492_2
            clear hi492_2 hl492_2
            replace p492 := eq_true p492
            replace q492 := eq_true q492
            try go_wp2_with (first | ((with_reducible refine gate_callee (f := 81) rfl ?_); refine goesL_ (some 40) rfl rfl Try.func81 (by kernel_rfl) rfl #[.slice A492_2 ((rd_T79 l0 x5_1).f1).length c492_2, .int .i64 (wrap64 ((wrap64 (x1_1 + 1)) + 1))] rfl al_ ?_; (with_reducible refine (laws_heldStringS.calls k1 _ _ ((rd_T79 l0 x5_1).f1) (wrap64 ((wrap64 (x1_1 + 1)) + 1)) t493 _ ?side1 ?side2 A9.out).mono ?_); (case side1 => exact kc_ (Kd.C_below HR492_2.out HB.out)); (case side2 => exact HC492_2.out); rintro e w20 ⟨rfl, hb⟩; refine ⟨_, rfl, ?_⟩; have n0_ := Aside0.mk (below_step (be_ HB.out) hb); clear HB; have HB := n0_; clear n0_; (try clear hb); (try clear hb2); (try clear hk); (try clear hi)))
            go_roundg k1
            case measure => have := HK1.out; omega
            case rel => exact ⟨(t493), (wrap64 (x5_1 + 1)), (by first | rfl | (simp; done) | (simp [*]; done)), (by first | rfl | (simp; done) | (simp [*]; done)), H', ⟨by have := HK1.out; omega⟩, ⟨be_ HB.out⟩⟩
        · rw [if_neg c8] at H
          have c8b0 : (((rd_T79 l0 x5_1).f0.f1).toList == t491.toList) = false := beq_eq_false_iff_ne.mpr c8
          have c8b1 : (((rd_T79 l0 x5_1).f0.f1).toList != t491.toList) = true := bne_iff_ne.mpr c8
          obtain rfl := Option.some.inj H
          try go_wp2
          have n0_ := Aside0.mk (below_drew1 HB.out)
          clear HB
          have HB := n0_
          clear n0_
          have p488 : 0 ≤ (x5_1 : Int) := of_decide_eq_true (by first | (with_reducible assumption) | assumption)
          have q488 : x5_1 < (l0.length : Int) := of_decide_eq_true (by first | (with_reducible assumption) | assumption)
          try clear hx490_2
          try clear hx490_1
          try clear hx490_0
          try clear hw490_2
          try clear hw490_1
          try clear hw490_0
          try clear hx492_2
          try clear hx492_1
          try clear hx492_0
          try clear hw492_2
          try clear hw492_1
          try clear hw492_0
          obtain ⟨ad488, A488_2, c488_2, e488, hx488_0, hx488_1, hx488_2, hl488_2, hi488_2⟩ := at_T79 HR0.out x5_1 p488 q488
          have hw488_2 := hx488_2
          have hw488_1 := hx488_1
          have hw488_0 := hx488_0
          cases e488
          replace hx488_0 := (HB.out.cell (World.block_lt_of_cell? w _ hx488_0)).trans hx488_0
          replace hx488_1 := (HB.out.cell (World.block_lt_of_cell? w _ hx488_1)).trans hx488_1
          replace hx488_2 := (HB.out.cell (World.block_lt_of_cell? w _ hx488_2)).trans hx488_2
          have HR488_2 := Aside0.mk hi488_2
          have HC488_2 := Aside0.mk hl488_2
          clear hi488_2 hl488_2
          replace p488 := eq_true p488
          replace q488 := eq_true q488
          refine start_ (n := 9) (S := fun w' => w'.cell? (ad488.add ((x5_1).toNat * 3)) = some (.string ((rd_T79 l0 x5_1).f0.f0)) ∧ w'.cell? ⟨(ad488.add ((x5_1).toNat * 3)).block, (ad488.add ((x5_1).toNat * 3)).off + 1, none⟩ = some (.string ((rd_T79 l0 x5_1).f0.f1)) ∧ w'.cell? ⟨(ad488.add ((x5_1).toNat * 3)).block, (ad488.add ((x5_1).toNat * 3)).off + 2, none⟩ = some (.slice A488_2 ((rd_T79 l0 x5_1).f1).length c488_2)) (ds := []) (bq_ 0 9) (by kernel_rfl) rfl rfl ⟨((HB.out.cell (World.block_lt_of_cell? w _ hw488_0)).trans hw488_0), ((HB.out.cell (World.block_lt_of_cell? w _ hw488_1)).trans hw488_1), ((HB.out.cell (World.block_lt_of_cell? w _ hw488_2)).trans hw488_2)⟩ (fun hHeld => ?_); refine with_tabW laws_heldItemS.tab4 laws_heldItemS.bits4 (fun HT_ HW_ => ?_)
          generalize wr.drew = w21 at HB HR488_2 hx488_0 hx488_1 hx488_2 hHeld ⊢
          refine pu_ 0 (some 12) (bq_ 1 8) HT_ ?_
          refine pu_ 1 (some 13) (bq_ 2 7) HT_ ?_
          refine pu_ 2 (some 14) (bq_ 3 6) HT_ ?_
          refine pu_ 3 (some 15) (bq_ 4 5) HT_ ?_
          refine pu_ 4 (some 16) (bq_ 5 4) HT_ ?_
          refine pu_ 6 (some 18) #[true, true, true, true, true, false, true, false, false] HT_ ?_
          refine take_ (i := 5) (N := some 17) (v := ?_) (a' := ?_) (bq_ 7 2) rfl rfl (take_ofW HT_.out HW_.out (by kernel_rfl)) (fun _ _ _ h => h) (Or.inl ⟨by rfl, ?_⟩) hHeld ?_ ?_
          rotate_left
          · rintro w' ⟨s0, s1, s2⟩
            go_simp
            with_reducible rfl
          rotate_left
          · simp only [Act.put, sa_, sz_, ss_, i64_w, i32_w]; rfl
          refine on_ 7 (some 19) (bq_ 8 1) HT_ (fun K hK => ?_)
          refine goes_ Try.func53 (by kernel_rfl) rfl #[.int .i64 x1_1] (by rfl) rfl rfl al_ ?_
          with_reducible refine (laws_markText.calls k1 x1_1 t489 _ A5.out).mono ?_
          rintro e w22 ⟨rfl, hb⟩
          refine ⟨_, rfl, ?_⟩
          have n0_ := Aside0.mk (below_step (be_ HB.out) hb)
          clear HB
          have HB := n0_
          clear n0_
          (try clear hb)
          (try clear hb2)
          (try clear hk)
          (try clear hi)
          refine hK.out _ _ ⟨((HB.out.cell (World.block_lt_of_cell? w _ hw488_0)).trans hw488_0), ((HB.out.cell (World.block_lt_of_cell? w _ hw488_1)).trans hw488_1), ((HB.out.cell (World.block_lt_of_cell? w _ hw488_2)).trans hw488_2)⟩ (fun hHeld => ?_)
          clear hK K
          refine nm_ ?_
          refine pu_ 8 (some 20) (bq_ 9 0) HT_ ?_
          refine done_ (done_of HT_.out (by kernel_rfl)) ?_
          try go_wp2
          have n0_ := Aside0.mk (below_drew1 HB.out)
          clear HB
          have HB := n0_
          clear n0_
          have p490 : 0 ≤ (x5_1 : Int) := of_decide_eq_true (by first | (with_reducible assumption) | assumption)
          have q490 : x5_1 < (l0.length : Int) := of_decide_eq_true (by first | (with_reducible assumption) | assumption)
          try clear hx488_2
          try clear hx488_1
          try clear hx488_0
          try clear hw488_2
          try clear hw488_1
          try clear hw488_0
          try clear hx492_2
          try clear hx492_1
          try clear hx492_0
          try clear hw492_2
          try clear hw492_1
          try clear hw492_0
          try clear hHeld
          obtain ⟨ad490, A490_2, c490_2, e490, hx490_0, hx490_1, hx490_2, hl490_2, hi490_2⟩ := at_T79 HR0.out x5_1 p490 q490
          have hw490_2 := hx490_2
          have hw490_1 := hx490_1
          have hw490_0 := hx490_0
          obtain rfl : ad488 = ad490 := (by injection e490)
          replace hx490_0 := (HB.out.cell (World.block_lt_of_cell? w _ hx490_0)).trans hx490_0
          replace hx490_1 := (HB.out.cell (World.block_lt_of_cell? w _ hx490_1)).trans hx490_1
          replace hx490_2 := (HB.out.cell (World.block_lt_of_cell? w _ hx490_2)).trans hx490_2
          have HR490_2 := Aside0.mk hi490_2
          have HC490_2 := Aside0.mk hl490_2
          clear hi490_2 hl490_2
          replace p490 := eq_true p490
          replace q490 := eq_true q490
          refine start_ (n := 9) (S := fun w' => w'.cell? (ad488.add ((x5_1).toNat * 3)) = some (.string ((rd_T79 l0 x5_1).f0.f0)) ∧ w'.cell? ⟨(ad488.add ((x5_1).toNat * 3)).block, (ad488.add ((x5_1).toNat * 3)).off + 1, none⟩ = some (.string ((rd_T79 l0 x5_1).f0.f1)) ∧ w'.cell? ⟨(ad488.add ((x5_1).toNat * 3)).block, (ad488.add ((x5_1).toNat * 3)).off + 2, none⟩ = some (.slice A490_2 ((rd_T79 l0 x5_1).f1).length c490_2)) (ds := []) (bq_ 0 9) (by kernel_rfl) rfl rfl ⟨((HB.out.cell (World.block_lt_of_cell? w _ hw490_0)).trans hw490_0), ((HB.out.cell (World.block_lt_of_cell? w _ hw490_1)).trans hw490_1), ((HB.out.cell (World.block_lt_of_cell? w _ hw490_2)).trans hw490_2)⟩ (fun hHeld => ?_); refine with_tabW laws_heldItemS.tab7 laws_heldItemS.bits7 (fun HT_ HW_ => ?_)
          generalize w22.drew = w23 at HB HR490_2 hx490_0 hx490_1 hx490_2 hHeld ⊢
          refine pu_ 0 (some 23) (bq_ 1 8) HT_ ?_
          refine pu_ 1 (some 24) (bq_ 2 7) HT_ ?_
          refine pu_ 2 (some 25) (bq_ 3 6) HT_ ?_
          refine pu_ 3 (some 26) (bq_ 4 5) HT_ ?_
          refine pu_ 4 (some 27) (bq_ 5 4) HT_ ?_
          refine pu_ 6 (some 29) #[true, true, true, true, true, false, true, false, false] HT_ ?_
          refine take_ (i := 5) (N := some 28) (v := ?_) (a' := ?_) (bq_ 7 2) rfl rfl (take_ofW HT_.out HW_.out (by kernel_rfl)) (fun _ _ _ h => h) (Or.inl ⟨by rfl, ?_⟩) hHeld ?_ ?_
          rotate_left
          · rintro w' ⟨s0, s1, s2⟩
            go_simp
            with_reducible rfl
          rotate_left
          · simp only [Act.put, sa_, sz_, ss_, i64_w, i32_w]; rfl
          refine on_ 7 (some 30) (bq_ 8 1) HT_ (fun K hK => ?_)
          refine goes_ Try.func53 (by kernel_rfl) rfl #[.int .i64 (wrap64 (x1_1 + 1))] (by rfl) rfl rfl al_ ?_
          with_reducible refine (laws_markText.calls k1 (wrap64 (x1_1 + 1)) t491 _ A7.out).mono ?_
          rintro e w24 ⟨rfl, hb⟩
          refine ⟨_, rfl, ?_⟩
          have n0_ := Aside0.mk (below_step (be_ HB.out) hb)
          clear HB
          have HB := n0_
          clear n0_
          (try clear hb)
          (try clear hb2)
          (try clear hk)
          (try clear hi)
          refine hK.out _ _ ⟨((HB.out.cell (World.block_lt_of_cell? w _ hw490_0)).trans hw490_0), ((HB.out.cell (World.block_lt_of_cell? w _ hw490_1)).trans hw490_1), ((HB.out.cell (World.block_lt_of_cell? w _ hw490_2)).trans hw490_2)⟩ (fun hHeld => ?_)
          clear hK K
          refine nm_ ?_
          refine pu_ 8 (some 31) (bq_ 9 0) HT_ ?_
          refine done_ (done_of HT_.out (by kernel_rfl)) ?_
          try go_wp2
          go_ret
          exact ⟨by first | rfl | (simp [errW_none, errW_some] <;> rfl) | (simp [*, errW_none, errW_some] <;> rfl), be_ HB.out⟩
      · rw [if_neg c6] at H
        have c6b0 : (((rd_T79 l0 x5_1).f0.f0).toList == t489.toList) = false := beq_eq_false_iff_ne.mpr c6
        have c6b1 : (((rd_T79 l0 x5_1).f0.f0).toList != t489.toList) = true := bne_iff_ne.mpr c6
        obtain rfl := Option.some.inj H
        try go_wp2
        have n0_ := Aside0.mk (below_drew1 HB.out)
        clear HB
        have HB := n0_
        clear n0_
        have p488 : 0 ≤ (x5_1 : Int) := of_decide_eq_true (by first | (with_reducible assumption) | assumption)
        have q488 : x5_1 < (l0.length : Int) := of_decide_eq_true (by first | (with_reducible assumption) | assumption)
        try clear hx490_2
        try clear hx490_1
        try clear hx490_0
        try clear hw490_2
        try clear hw490_1
        try clear hw490_0
        try clear hx492_2
        try clear hx492_1
        try clear hx492_0
        try clear hw492_2
        try clear hw492_1
        try clear hw492_0
        obtain ⟨ad488, A488_2, c488_2, e488, hx488_0, hx488_1, hx488_2, hl488_2, hi488_2⟩ := at_T79 HR0.out x5_1 p488 q488
        have hw488_2 := hx488_2
        have hw488_1 := hx488_1
        have hw488_0 := hx488_0
        cases e488
        replace hx488_0 := (HB.out.cell (World.block_lt_of_cell? w _ hx488_0)).trans hx488_0
        replace hx488_1 := (HB.out.cell (World.block_lt_of_cell? w _ hx488_1)).trans hx488_1
        replace hx488_2 := (HB.out.cell (World.block_lt_of_cell? w _ hx488_2)).trans hx488_2
        have HR488_2 := Aside0.mk hi488_2
        have HC488_2 := Aside0.mk hl488_2
        clear hi488_2 hl488_2
        replace p488 := eq_true p488
        replace q488 := eq_true q488
        refine start_ (n := 9) (S := fun w' => w'.cell? (ad488.add ((x5_1).toNat * 3)) = some (.string ((rd_T79 l0 x5_1).f0.f0)) ∧ w'.cell? ⟨(ad488.add ((x5_1).toNat * 3)).block, (ad488.add ((x5_1).toNat * 3)).off + 1, none⟩ = some (.string ((rd_T79 l0 x5_1).f0.f1)) ∧ w'.cell? ⟨(ad488.add ((x5_1).toNat * 3)).block, (ad488.add ((x5_1).toNat * 3)).off + 2, none⟩ = some (.slice A488_2 ((rd_T79 l0 x5_1).f1).length c488_2)) (ds := []) (bq_ 0 9) (by kernel_rfl) rfl rfl ⟨((HB.out.cell (World.block_lt_of_cell? w _ hw488_0)).trans hw488_0), ((HB.out.cell (World.block_lt_of_cell? w _ hw488_1)).trans hw488_1), ((HB.out.cell (World.block_lt_of_cell? w _ hw488_2)).trans hw488_2)⟩ (fun hHeld => ?_); refine with_tabW laws_heldItemS.tab4 laws_heldItemS.bits4 (fun HT_ HW_ => ?_)
        generalize wr.drew = w25 at HB HR488_2 hx488_0 hx488_1 hx488_2 hHeld ⊢
        refine pu_ 0 (some 12) (bq_ 1 8) HT_ ?_
        refine pu_ 1 (some 13) (bq_ 2 7) HT_ ?_
        refine pu_ 2 (some 14) (bq_ 3 6) HT_ ?_
        refine pu_ 3 (some 15) (bq_ 4 5) HT_ ?_
        refine pu_ 4 (some 16) (bq_ 5 4) HT_ ?_
        refine pu_ 6 (some 18) #[true, true, true, true, true, false, true, false, false] HT_ ?_
        refine take_ (i := 5) (N := some 17) (v := ?_) (a' := ?_) (bq_ 7 2) rfl rfl (take_ofW HT_.out HW_.out (by kernel_rfl)) (fun _ _ _ h => h) (Or.inl ⟨by rfl, ?_⟩) hHeld ?_ ?_
        rotate_left
        · rintro w' ⟨s0, s1, s2⟩
          go_simp
          with_reducible rfl
        rotate_left
        · simp only [Act.put, sa_, sz_, ss_, i64_w, i32_w]; rfl
        refine on_ 7 (some 19) (bq_ 8 1) HT_ (fun K hK => ?_)
        refine goes_ Try.func53 (by kernel_rfl) rfl #[.int .i64 x1_1] (by rfl) rfl rfl al_ ?_
        with_reducible refine (laws_markText.calls k1 x1_1 t489 _ A5.out).mono ?_
        rintro e w26 ⟨rfl, hb⟩
        refine ⟨_, rfl, ?_⟩
        have n0_ := Aside0.mk (below_step (be_ HB.out) hb)
        clear HB
        have HB := n0_
        clear n0_
        (try clear hb)
        (try clear hb2)
        (try clear hk)
        (try clear hi)
        refine hK.out _ _ ⟨((HB.out.cell (World.block_lt_of_cell? w _ hw488_0)).trans hw488_0), ((HB.out.cell (World.block_lt_of_cell? w _ hw488_1)).trans hw488_1), ((HB.out.cell (World.block_lt_of_cell? w _ hw488_2)).trans hw488_2)⟩ (fun hHeld => ?_)
        clear hK K
        refine nm_ ?_
        refine pu_ 8 (some 20) (bq_ 9 0) HT_ ?_
        refine done_ (done_of HT_.out (by kernel_rfl)) ?_
        try go_wp2
        go_ret
        exact ⟨by first | rfl | (simp [errW_none, errW_some] <;> rfl) | (simp [*, errW_none, errW_some] <;> rfl), be_ HB.out⟩
    · rw [if_neg c3] at H
      have c3b0 : decide (x5_1 < (l0.length : Int)) = false := decide_eq_false c3
      clear c3
      obtain rfl := Option.some.inj H
      go_wp2
      go_ret
      exact ⟨by first | rfl | (simp [errW_none, errW_some] <;> rfl) | (simp [*, errW_none, errW_some] <;> rfl), be_ HB.out⟩

/-! ###  laws_heldProof: function 26 -/
def laws_heldProof.f (k : Nat) (a0_0 : Int) (a0_1 : Int) (l0_2 : List (S79)) (a1 : Int) : Option (Int) := (laws_heldItemS.f k l0_2 a1).bind fun t495 => (if t495 < 0 then (some (-1)) else (some t495))
set_option maxHeartbeats 8000000 in
set_option maxRecDepth 100000 in
theorem laws_heldProof.calls (k : Nat) (a0_0 : Int) (a0_1 : Int) (A0_2 : Option Addr) (c0_2 : Nat) (l0_2 : List (S79)) (a1 : Int) (r : Int) (w : World) (hr0_2 : Kd.C k79 w A0_2 l0_2.length l0_2) (hc0_2 : l0_2.length ≤ c0_2) (h : laws_heldProof.f k a0_0 a0_1 l0_2 a1 = some r) :
  Calls Try.prog 26 #[.agg #[.int .i64 a0_0, .int .i64 a0_1, .slice A0_2 l0_2.length c0_2], .int .i64 a1] w fun e w' => e = .returned (.int .i64 r) ∧ Below w.heap.size w w' := by
  have hu44 := Try.underlying44
  have HR0_2 := Aside0.mk hr0_2
  have HC0_2 := Aside0.mk hc0_2
  clear hr0_2 hc0_2
  have HB := Aside0.mk (Below.refl w.heap.size w)
  have H : ((laws_heldItemS.f k l0_2 a1).bind fun t495 => (if t495 < 0 then (some (-1)) else (some t495))) = some r := h
  clear h
  replace H := Option.bind_eq_some_iff.mp H
  obtain ⟨t495, A30, H⟩ := H
  have A3 := Aside0.mk A30
  clear A30
  by_cases c4 : t495 < 0
  · rw [if_pos c4] at H
    have c4b0 : decide (t495 < 0) = true := decide_eq_true c4
    clear c4
    obtain rfl := Option.some.inj H
    go_enter Try.func26, Try.ntmps26
    go_wp2_with (first | ((with_reducible refine gate_dst (N := 2) rfl ?_); refine box_event ?hg (N := 2) ?hd (cs := #[.int .i64 a0_0, .int .i64 a0_1, .slice A0_2 l0_2.length c0_2]) (t := 44) ?hr ?_; (case hd => rfl); (case hg => rfl); (case hr => first | (go_simp; done) | (go_simp; rfl)); intro gb494 hg w5 hbox hb; have n0_ := Aside0.mk (below_step (be_ HB.out) hb); have n1_ := Aside0.mk (hbox); have n2_ := Aside0.mk ((by rw [hg]; exact (below_size (be_ HB.out)) : w.heap.size ≤ gb494)); have n3_ := Aside0.mk ((by rw [hg]; exact (below_size (be_ HB.out)) : w.heap.size ≤ gb494)); clear HB; have HB := n0_; have BK494 := n1_; have GW494 := n2_; have GE494 := n3_; clear n0_ n1_ n2_ n3_; clear hb hbox hg; have hcz6_0 : w5.cell? ⟨gb494, 0, none⟩ = some (.int .i64 a0_0) := (blk_cell BK494.out 0).trans rfl; have hcz6_1 : w5.cell? ⟨gb494, 1, none⟩ = some (.int .i64 a0_1) := (blk_cell BK494.out 1).trans rfl; have hcz6_2 : w5.cell? ⟨gb494, 2, none⟩ = some (.slice A0_2 l0_2.length c0_2) := (blk_cell BK494.out 2).trans rfl; have hfz6_0 := blk_frozen BK494.out 0; have hfz6_1 := blk_frozen BK494.out 1; have hfz6_2 := blk_frozen BK494.out 2) | ((with_reducible refine gate_callee (f := 55) rfl ?_); refine goesL_ (some 8) rfl rfl Try.func55 (by kernel_rfl) rfl #[.slice A0_2 l0_2.length c0_2, .int .i64 a1] rfl al_ ?_; (with_reducible refine (laws_heldItemS.calls k _ _ l0_2 a1 t495 _ ?side1 ?side2 A3.out).mono ?_); (case side1 => exact kc_ (Kd.C_below HR0_2.out HB.out)); (case side2 => exact HC0_2.out); rintro e w7 ⟨rfl, hb⟩; refine ⟨_, rfl, ?_⟩; have n0_ := Aside0.mk (blk_below (g := gb494) (o := .cells #[.int .i64 a0_0, .int .i64 a0_1, .slice A0_2 l0_2.length c0_2] 44 (0, 0)) (bk_ BK494.out) hb); have n1_ := Aside0.mk (below_step (bs_ HB.out GE494.out) hb); clear BK494; clear HB; have BK494 := n0_; have HB := n1_; clear n0_ n1_; (try clear hb); (try clear hb2); (try clear hk); (try clear hi)))
    go_ret
    exact ⟨by first | rfl | (simp [errW_none, errW_some] <;> rfl) | (simp [*, errW_none, errW_some] <;> rfl), bs_ HB.out GE494.out⟩
  · rw [if_neg c4] at H
    have c4b0 : decide (t495 < 0) = false := decide_eq_false c4
    clear c4
    obtain rfl := Option.some.inj H
    go_enter Try.func26, Try.ntmps26
    go_wp2_with (first | ((with_reducible refine gate_dst (N := 2) rfl ?_); refine box_event ?hg (N := 2) ?hd (cs := #[.int .i64 a0_0, .int .i64 a0_1, .slice A0_2 l0_2.length c0_2]) (t := 44) ?hr ?_; (case hd => rfl); (case hg => rfl); (case hr => first | (go_simp; done) | (go_simp; rfl)); intro gb494 hg w8 hbox hb; have n0_ := Aside0.mk (below_step (be_ HB.out) hb); have n1_ := Aside0.mk (hbox); have n2_ := Aside0.mk ((by rw [hg]; exact (below_size (be_ HB.out)) : w.heap.size ≤ gb494)); have n3_ := Aside0.mk ((by rw [hg]; exact (below_size (be_ HB.out)) : w.heap.size ≤ gb494)); clear HB; have HB := n0_; have BK494 := n1_; have GW494 := n2_; have GE494 := n3_; clear n0_ n1_ n2_ n3_; clear hb hbox hg; have hcz9_0 : w8.cell? ⟨gb494, 0, none⟩ = some (.int .i64 a0_0) := (blk_cell BK494.out 0).trans rfl; have hcz9_1 : w8.cell? ⟨gb494, 1, none⟩ = some (.int .i64 a0_1) := (blk_cell BK494.out 1).trans rfl; have hcz9_2 : w8.cell? ⟨gb494, 2, none⟩ = some (.slice A0_2 l0_2.length c0_2) := (blk_cell BK494.out 2).trans rfl; have hfz9_0 := blk_frozen BK494.out 0; have hfz9_1 := blk_frozen BK494.out 1; have hfz9_2 := blk_frozen BK494.out 2) | ((with_reducible refine gate_callee (f := 55) rfl ?_); refine goesL_ (some 8) rfl rfl Try.func55 (by kernel_rfl) rfl #[.slice A0_2 l0_2.length c0_2, .int .i64 a1] rfl al_ ?_; (with_reducible refine (laws_heldItemS.calls k _ _ l0_2 a1 t495 _ ?side1 ?side2 A3.out).mono ?_); (case side1 => exact kc_ (Kd.C_below HR0_2.out HB.out)); (case side2 => exact HC0_2.out); rintro e w10 ⟨rfl, hb⟩; refine ⟨_, rfl, ?_⟩; have n0_ := Aside0.mk (blk_below (g := gb494) (o := .cells #[.int .i64 a0_0, .int .i64 a0_1, .slice A0_2 l0_2.length c0_2] 44 (0, 0)) (bk_ BK494.out) hb); have n1_ := Aside0.mk (below_step (bs_ HB.out GE494.out) hb); clear BK494; clear HB; have BK494 := n0_; have HB := n1_; clear n0_ n1_; (try clear hb); (try clear hb2); (try clear hk); (try clear hi)))
    go_ret
    exact ⟨by first | rfl | (simp [errW_none, errW_some] <;> rfl) | (simp [*, errW_none, errW_some] <;> rfl), bs_ HB.out GE494.out⟩

end Go.Proofs.Ytbelaenekbflfaa.P
