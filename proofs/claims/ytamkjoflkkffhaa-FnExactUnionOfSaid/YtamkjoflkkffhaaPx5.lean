-- Written by wip/xp/xp.py over the kit's print; Lean checks it.
import Derived.Test.YtamkjoflkkffhaaPx0
import Derived.Test.YtamkjoflkkffhaaPx4
namespace Go.Proofs.Ytamkjoflkkffhaa.P
open Go.RowKit Go.Proofs.YtamkjoflkkffhaaW.PrintWords Go.Proofs.YtamkjoflkkffhaaW.PrintLast Go.Proofs.YtamkjoflkkffhaaW.PrintMore
attribute [local go_sem] max2_int min2_int max_two min_two max_three min_three max_four min_four   -- for this text's walks alone
set_option linter.unusedVariables false
set_option linter.unusedSimpArgs false

/-! ###  laws_heldPairS: function 16 -/
def laws_heldPairS.l0 : Nat → List (S53) → Int → Int → Option (Int)
  | 0, _, _, _ => none
  | k + 1, x0, x1, x5 => if x5 < (x0.length : Int) then (if 0 ≤ x5 then ((laws_markText.f k x1).bind fun t135 => (if ((rd_T53 x0 x5).f0).toList = t135.toList then ((laws_markText.f k (wrap64 (x1 + 1))).bind fun t137 => (if ((rd_T53 x0 x5).f1).toList = t137.toList then (laws_heldPairS.l0 k x0 (wrap64 ((wrap64 (x1 + 1)) + 1)) (wrap64 (x5 + 1))) else (some (-1)))) else (some (-1)))) else (none)) else (some x1)
def laws_heldPairS.f (k : Nat) (l0 : List (S53)) (a1 : Int) : Option (Int) := laws_heldPairS.l0 k l0 a1 0
def laws_heldPairS.T4 : Bool × List (List Nat × List Nat) := (true, [([], []), ([], []), ([0, 1], [0, 1]), ([2], [2]), ([3], [3]), ([], []), ([5], [5]), ([4, 6], [4, 6])])
def laws_heldPairS.B4 : List Nat := [0, 0, 3, 7, 15, 0, 32, 127]
theorem laws_heldPairS.tab4 : rtab .any (opsOf Try.f16 4) = laws_heldPairS.T4 := by kernel_rfl
theorem laws_heldPairS.bits4 : waitsOk laws_heldPairS.T4.2 laws_heldPairS.B4 = true := by kernel_rfl
def laws_heldPairS.T7 : Bool × List (List Nat × List Nat) := (true, [([], []), ([], []), ([0, 1], [0, 1]), ([2], [2]), ([3], [3]), ([], []), ([5], [5]), ([4, 6], [4, 6])])
def laws_heldPairS.B7 : List Nat := [0, 0, 3, 7, 15, 0, 32, 127]
theorem laws_heldPairS.tab7 : rtab .any (opsOf Try.f16 7) = laws_heldPairS.T7 := by kernel_rfl
theorem laws_heldPairS.bits7 : waitsOk laws_heldPairS.T7.2 laws_heldPairS.B7 = true := by kernel_rfl
set_option maxHeartbeats 8000000 in
set_option maxRecDepth 100000 in
theorem laws_heldPairS.calls (k : Nat) (A0 : Option Addr) (c0 : Nat) (l0 : List (S53)) (a1 : Int) (r : Int) (w : World) (hr0 : Kd.C k53 w A0 l0.length l0) (hc0 : l0.length ≤ c0) (h : laws_heldPairS.f k l0 a1 = some r) :
  Calls Try.prog 16 #[.slice A0 l0.length c0, .int .i64 a1] w fun e w' => e = .returned (.int .i64 r) ∧ Below w.heap.size w w' := by
  have HR0 := Aside0.mk hr0
  have HC0 := Aside0.mk hc0
  clear hr0 hc0
  have HB := Aside0.mk (Below.refl w.heap.size w)
  have H : (laws_heldPairS.l0 k l0 a1 0) = some r := h
  clear h
  have H' := Aside0.mk H
  clear H
  go_enter Try.func16, Try.ntmps16
  go_wp2
  go_loopg [1, 5] k (fun kq v1 v5 w' => ∃ (x1_1 : Int) (x5_1 : Int), v1 = .int .i64 x1_1 ∧ v5 = .int .i64 x5_1 ∧ Aside0 (laws_heldPairS.l0 kq l0 x1_1 x5_1 = some r) ∧ Aside0 (kq ≤ k) ∧ Aside0 (Below w.heap.size w w'))
  case atStart => exact ⟨(a1), (0), (by first | rfl | (simp; done) | (simp [*]; done)), (by first | rfl | (simp; done) | (simp [*]; done)), H', ⟨Nat.le_refl _⟩, ⟨be_ HB.out⟩⟩
  case round =>
   clear H'
   try clear c1
   try clear p2
   obtain ⟨x1_1, x5_1, rfl, rfl, HA, HK1, HB⟩ := hrel
   cases gk with
   | zero => exact absurd HA.out (by simp [laws_heldPairS.l0])
   | succ k1 =>
    have H := HA.out
    clear HA
    simp only [laws_heldPairS.l0] at H
    by_cases c3 : x5_1 < (l0.length : Int)
    · rw [if_pos c3] at H
      have c3b0 : decide (x5_1 < (l0.length : Int)) = true := decide_eq_true c3
      clear c3
      by_cases c4 : 0 ≤ x5_1
      rotate_left
      · rw [if_neg c4] at H; exact absurd H (by simp)
      rw [if_pos c4] at H
      have c4b0 : decide (0 ≤ x5_1) = true := decide_eq_true c4
      clear c4
      replace H := Option.bind_eq_some_iff.mp H
      obtain ⟨t135, A50, H⟩ := H
      have A5 := Aside0.mk A50
      clear A50
      by_cases c6 : ((rd_T53 l0 x5_1).f0).toList = t135.toList
      · rw [if_pos c6] at H
        have c6b0 : (((rd_T53 l0 x5_1).f0).toList == t135.toList) = true := beq_iff_eq.mpr c6
        have c6b1 : (((rd_T53 l0 x5_1).f0).toList != t135.toList) = false := bne_eq_false_iff_eq.mpr c6
        clear c6
        replace H := Option.bind_eq_some_iff.mp H
        obtain ⟨t137, A70, H⟩ := H
        have A7 := Aside0.mk A70
        clear A70
        by_cases c8 : ((rd_T53 l0 x5_1).f1).toList = t137.toList
        · rw [if_pos c8] at H
          have c8b0 : (((rd_T53 l0 x5_1).f1).toList == t137.toList) = true := beq_iff_eq.mpr c8
          have c8b1 : (((rd_T53 l0 x5_1).f1).toList != t137.toList) = false := bne_eq_false_iff_eq.mpr c8
          clear c8
          have H' := Aside0.mk H
          clear H
          try go_wp2
          have n0_ := Aside0.mk (below_drew1 HB.out)
          clear HB
          have HB := n0_
          clear n0_
          have p134 : 0 ≤ (x5_1 : Int) := of_decide_eq_true (by first | (with_reducible assumption) | assumption)
          have q134 : x5_1 < (l0.length : Int) := of_decide_eq_true (by first | (with_reducible assumption) | assumption)
          obtain ⟨ad134, e134, hx134_0, hx134_1⟩ := at_T53 HR0.out x5_1 p134 q134
          have hw134_1 := hx134_1
          have hw134_0 := hx134_0
          cases e134
          replace hx134_0 := (HB.out.cell (World.block_lt_of_cell? w _ hx134_0)).trans hx134_0
          replace hx134_1 := (HB.out.cell (World.block_lt_of_cell? w _ hx134_1)).trans hx134_1
          replace p134 := eq_true p134
          replace q134 := eq_true q134
          refine start_ (n := 8) (S := fun w' => w'.cell? (ad134.add ((x5_1).toNat * 2)) = some (.string ((rd_T53 l0 x5_1).f0)) ∧ w'.cell? ⟨(ad134.add ((x5_1).toNat * 2)).block, (ad134.add ((x5_1).toNat * 2)).off + 1, none⟩ = some (.string ((rd_T53 l0 x5_1).f1))) (ds := []) (bq_ 0 8) (by kernel_rfl) rfl rfl ⟨((HB.out.cell (World.block_lt_of_cell? w _ hw134_0)).trans hw134_0), ((HB.out.cell (World.block_lt_of_cell? w _ hw134_1)).trans hw134_1)⟩ (fun hHeld => ?_); refine with_tabW laws_heldPairS.tab4 laws_heldPairS.bits4 (fun HT_ HW_ => ?_)
          generalize wr.drew = w9 at HB hx134_0 hx134_1 hHeld ⊢
          refine pu_ 0 (some 12) (bq_ 1 7) HT_ ?_
          refine pu_ 1 (some 13) (bq_ 2 6) HT_ ?_
          refine pu_ 2 (some 14) (bq_ 3 5) HT_ ?_
          refine pu_ 3 (some 15) (bq_ 4 4) HT_ ?_
          refine pu_ 5 (some 17) #[true, true, true, true, false, true, false, false] HT_ ?_
          refine take_ (i := 4) (N := some 16) (v := ?_) (a' := ?_) (bq_ 6 2) rfl rfl (take_ofW HT_.out HW_.out (by kernel_rfl)) (fun _ _ _ h => h) (Or.inl ⟨by rfl, ?_⟩) hHeld ?_ ?_
          rotate_left
          · rintro w' ⟨s0, s1⟩
            go_simp
            with_reducible rfl
          rotate_left
          · simp only [Act.put, sa_, sz_, ss_, i64_w, i32_w]; rfl
          refine on_ 6 (some 18) (bq_ 7 1) HT_ (fun K hK => ?_)
          refine goes_ Try.func50 (by kernel_rfl) rfl #[.int .i64 x1_1] (by rfl) rfl rfl al_ ?_
          with_reducible refine (laws_markText.calls k1 x1_1 t135 _ A5.out).mono ?_
          rintro e w10 ⟨rfl, hb⟩
          refine ⟨_, rfl, ?_⟩
          have n0_ := Aside0.mk (below_step (be_ HB.out) hb)
          clear HB
          have HB := n0_
          clear n0_
          (try clear hb)
          (try clear hb2)
          (try clear hk)
          (try clear hi)
          refine hK.out _ _ ⟨((HB.out.cell (World.block_lt_of_cell? w _ hw134_0)).trans hw134_0), ((HB.out.cell (World.block_lt_of_cell? w _ hw134_1)).trans hw134_1)⟩ (fun hHeld => ?_)
          clear hK K
          refine nm_ ?_
          refine pu_ 7 (some 19) (bq_ 8 0) HT_ ?_
          refine done_ (done_of HT_.out (by kernel_rfl)) ?_
          try go_wp2
          have n0_ := Aside0.mk (below_drew1 HB.out)
          clear HB
          have HB := n0_
          clear n0_
          have p136 : 0 ≤ (x5_1 : Int) := of_decide_eq_true (by first | (with_reducible assumption) | assumption)
          have q136 : x5_1 < (l0.length : Int) := of_decide_eq_true (by first | (with_reducible assumption) | assumption)
          obtain ⟨ad136, e136, hx136_0, hx136_1⟩ := at_T53 HR0.out x5_1 p136 q136
          have hw136_1 := hx136_1
          have hw136_0 := hx136_0
          obtain rfl : ad134 = ad136 := (by injection e136)
          replace hx136_0 := (HB.out.cell (World.block_lt_of_cell? w _ hx136_0)).trans hx136_0
          replace hx136_1 := (HB.out.cell (World.block_lt_of_cell? w _ hx136_1)).trans hx136_1
          replace p136 := eq_true p136
          replace q136 := eq_true q136
          refine start_ (n := 8) (S := fun w' => w'.cell? (ad134.add ((x5_1).toNat * 2)) = some (.string ((rd_T53 l0 x5_1).f0)) ∧ w'.cell? ⟨(ad134.add ((x5_1).toNat * 2)).block, (ad134.add ((x5_1).toNat * 2)).off + 1, none⟩ = some (.string ((rd_T53 l0 x5_1).f1))) (ds := []) (bq_ 0 8) (by kernel_rfl) rfl rfl ⟨((HB.out.cell (World.block_lt_of_cell? w _ hw136_0)).trans hw136_0), ((HB.out.cell (World.block_lt_of_cell? w _ hw136_1)).trans hw136_1)⟩ (fun hHeld => ?_); refine with_tabW laws_heldPairS.tab7 laws_heldPairS.bits7 (fun HT_ HW_ => ?_)
          generalize w10.drew = w11 at HB hx136_0 hx136_1 hHeld ⊢
          refine pu_ 0 (some 22) (bq_ 1 7) HT_ ?_
          refine pu_ 1 (some 23) (bq_ 2 6) HT_ ?_
          refine pu_ 2 (some 24) (bq_ 3 5) HT_ ?_
          refine pu_ 3 (some 25) (bq_ 4 4) HT_ ?_
          refine pu_ 5 (some 27) #[true, true, true, true, false, true, false, false] HT_ ?_
          refine take_ (i := 4) (N := some 26) (v := ?_) (a' := ?_) (bq_ 6 2) rfl rfl (take_ofW HT_.out HW_.out (by kernel_rfl)) (fun _ _ _ h => h) (Or.inl ⟨by rfl, ?_⟩) hHeld ?_ ?_
          rotate_left
          · rintro w' ⟨s0, s1⟩
            go_simp
            with_reducible rfl
          rotate_left
          · simp only [Act.put, sa_, sz_, ss_, i64_w, i32_w]; rfl
          refine on_ 6 (some 28) (bq_ 7 1) HT_ (fun K hK => ?_)
          refine goes_ Try.func50 (by kernel_rfl) rfl #[.int .i64 (wrap64 (x1_1 + 1))] (by rfl) rfl rfl al_ ?_
          with_reducible refine (laws_markText.calls k1 (wrap64 (x1_1 + 1)) t137 _ A7.out).mono ?_
          rintro e w12 ⟨rfl, hb⟩
          refine ⟨_, rfl, ?_⟩
          have n0_ := Aside0.mk (below_step (be_ HB.out) hb)
          clear HB
          have HB := n0_
          clear n0_
          (try clear hb)
          (try clear hb2)
          (try clear hk)
          (try clear hi)
          refine hK.out _ _ ⟨((HB.out.cell (World.block_lt_of_cell? w _ hw136_0)).trans hw136_0), ((HB.out.cell (World.block_lt_of_cell? w _ hw136_1)).trans hw136_1)⟩ (fun hHeld => ?_)
          clear hK K
          refine nm_ ?_
          refine pu_ 7 (some 29) (bq_ 8 0) HT_ ?_
          refine done_ (done_of HT_.out (by kernel_rfl)) ?_
          try go_wp2
          go_roundg k1
          case measure => have := HK1.out; omega
          case rel => exact ⟨(wrap64 ((wrap64 (x1_1 + 1)) + 1)), (wrap64 (x5_1 + 1)), (by first | rfl | (simp; done) | (simp [*]; done)), (by first | rfl | (simp; done) | (simp [*]; done)), H', ⟨by have := HK1.out; omega⟩, ⟨be_ HB.out⟩⟩
        · rw [if_neg c8] at H
          have c8b0 : (((rd_T53 l0 x5_1).f1).toList == t137.toList) = false := beq_eq_false_iff_ne.mpr c8
          have c8b1 : (((rd_T53 l0 x5_1).f1).toList != t137.toList) = true := bne_iff_ne.mpr c8
          obtain rfl := Option.some.inj H
          try go_wp2
          have n0_ := Aside0.mk (below_drew1 HB.out)
          clear HB
          have HB := n0_
          clear n0_
          have p134 : 0 ≤ (x5_1 : Int) := of_decide_eq_true (by first | (with_reducible assumption) | assumption)
          have q134 : x5_1 < (l0.length : Int) := of_decide_eq_true (by first | (with_reducible assumption) | assumption)
          obtain ⟨ad134, e134, hx134_0, hx134_1⟩ := at_T53 HR0.out x5_1 p134 q134
          have hw134_1 := hx134_1
          have hw134_0 := hx134_0
          cases e134
          replace hx134_0 := (HB.out.cell (World.block_lt_of_cell? w _ hx134_0)).trans hx134_0
          replace hx134_1 := (HB.out.cell (World.block_lt_of_cell? w _ hx134_1)).trans hx134_1
          replace p134 := eq_true p134
          replace q134 := eq_true q134
          refine start_ (n := 8) (S := fun w' => w'.cell? (ad134.add ((x5_1).toNat * 2)) = some (.string ((rd_T53 l0 x5_1).f0)) ∧ w'.cell? ⟨(ad134.add ((x5_1).toNat * 2)).block, (ad134.add ((x5_1).toNat * 2)).off + 1, none⟩ = some (.string ((rd_T53 l0 x5_1).f1))) (ds := []) (bq_ 0 8) (by kernel_rfl) rfl rfl ⟨((HB.out.cell (World.block_lt_of_cell? w _ hw134_0)).trans hw134_0), ((HB.out.cell (World.block_lt_of_cell? w _ hw134_1)).trans hw134_1)⟩ (fun hHeld => ?_); refine with_tabW laws_heldPairS.tab4 laws_heldPairS.bits4 (fun HT_ HW_ => ?_)
          generalize wr.drew = w13 at HB hx134_0 hx134_1 hHeld ⊢
          refine pu_ 0 (some 12) (bq_ 1 7) HT_ ?_
          refine pu_ 1 (some 13) (bq_ 2 6) HT_ ?_
          refine pu_ 2 (some 14) (bq_ 3 5) HT_ ?_
          refine pu_ 3 (some 15) (bq_ 4 4) HT_ ?_
          refine pu_ 5 (some 17) #[true, true, true, true, false, true, false, false] HT_ ?_
          refine take_ (i := 4) (N := some 16) (v := ?_) (a' := ?_) (bq_ 6 2) rfl rfl (take_ofW HT_.out HW_.out (by kernel_rfl)) (fun _ _ _ h => h) (Or.inl ⟨by rfl, ?_⟩) hHeld ?_ ?_
          rotate_left
          · rintro w' ⟨s0, s1⟩
            go_simp
            with_reducible rfl
          rotate_left
          · simp only [Act.put, sa_, sz_, ss_, i64_w, i32_w]; rfl
          refine on_ 6 (some 18) (bq_ 7 1) HT_ (fun K hK => ?_)
          refine goes_ Try.func50 (by kernel_rfl) rfl #[.int .i64 x1_1] (by rfl) rfl rfl al_ ?_
          with_reducible refine (laws_markText.calls k1 x1_1 t135 _ A5.out).mono ?_
          rintro e w14 ⟨rfl, hb⟩
          refine ⟨_, rfl, ?_⟩
          have n0_ := Aside0.mk (below_step (be_ HB.out) hb)
          clear HB
          have HB := n0_
          clear n0_
          (try clear hb)
          (try clear hb2)
          (try clear hk)
          (try clear hi)
          refine hK.out _ _ ⟨((HB.out.cell (World.block_lt_of_cell? w _ hw134_0)).trans hw134_0), ((HB.out.cell (World.block_lt_of_cell? w _ hw134_1)).trans hw134_1)⟩ (fun hHeld => ?_)
          clear hK K
          refine nm_ ?_
          refine pu_ 7 (some 19) (bq_ 8 0) HT_ ?_
          refine done_ (done_of HT_.out (by kernel_rfl)) ?_
          try go_wp2
          have n0_ := Aside0.mk (below_drew1 HB.out)
          clear HB
          have HB := n0_
          clear n0_
          have p136 : 0 ≤ (x5_1 : Int) := of_decide_eq_true (by first | (with_reducible assumption) | assumption)
          have q136 : x5_1 < (l0.length : Int) := of_decide_eq_true (by first | (with_reducible assumption) | assumption)
          obtain ⟨ad136, e136, hx136_0, hx136_1⟩ := at_T53 HR0.out x5_1 p136 q136
          have hw136_1 := hx136_1
          have hw136_0 := hx136_0
          obtain rfl : ad134 = ad136 := (by injection e136)
          replace hx136_0 := (HB.out.cell (World.block_lt_of_cell? w _ hx136_0)).trans hx136_0
          replace hx136_1 := (HB.out.cell (World.block_lt_of_cell? w _ hx136_1)).trans hx136_1
          replace p136 := eq_true p136
          replace q136 := eq_true q136
          refine start_ (n := 8) (S := fun w' => w'.cell? (ad134.add ((x5_1).toNat * 2)) = some (.string ((rd_T53 l0 x5_1).f0)) ∧ w'.cell? ⟨(ad134.add ((x5_1).toNat * 2)).block, (ad134.add ((x5_1).toNat * 2)).off + 1, none⟩ = some (.string ((rd_T53 l0 x5_1).f1))) (ds := []) (bq_ 0 8) (by kernel_rfl) rfl rfl ⟨((HB.out.cell (World.block_lt_of_cell? w _ hw136_0)).trans hw136_0), ((HB.out.cell (World.block_lt_of_cell? w _ hw136_1)).trans hw136_1)⟩ (fun hHeld => ?_); refine with_tabW laws_heldPairS.tab7 laws_heldPairS.bits7 (fun HT_ HW_ => ?_)
          generalize w14.drew = w15 at HB hx136_0 hx136_1 hHeld ⊢
          refine pu_ 0 (some 22) (bq_ 1 7) HT_ ?_
          refine pu_ 1 (some 23) (bq_ 2 6) HT_ ?_
          refine pu_ 2 (some 24) (bq_ 3 5) HT_ ?_
          refine pu_ 3 (some 25) (bq_ 4 4) HT_ ?_
          refine pu_ 5 (some 27) #[true, true, true, true, false, true, false, false] HT_ ?_
          refine take_ (i := 4) (N := some 26) (v := ?_) (a' := ?_) (bq_ 6 2) rfl rfl (take_ofW HT_.out HW_.out (by kernel_rfl)) (fun _ _ _ h => h) (Or.inl ⟨by rfl, ?_⟩) hHeld ?_ ?_
          rotate_left
          · rintro w' ⟨s0, s1⟩
            go_simp
            with_reducible rfl
          rotate_left
          · simp only [Act.put, sa_, sz_, ss_, i64_w, i32_w]; rfl
          refine on_ 6 (some 28) (bq_ 7 1) HT_ (fun K hK => ?_)
          refine goes_ Try.func50 (by kernel_rfl) rfl #[.int .i64 (wrap64 (x1_1 + 1))] (by rfl) rfl rfl al_ ?_
          with_reducible refine (laws_markText.calls k1 (wrap64 (x1_1 + 1)) t137 _ A7.out).mono ?_
          rintro e w16 ⟨rfl, hb⟩
          refine ⟨_, rfl, ?_⟩
          have n0_ := Aside0.mk (below_step (be_ HB.out) hb)
          clear HB
          have HB := n0_
          clear n0_
          (try clear hb)
          (try clear hb2)
          (try clear hk)
          (try clear hi)
          refine hK.out _ _ ⟨((HB.out.cell (World.block_lt_of_cell? w _ hw136_0)).trans hw136_0), ((HB.out.cell (World.block_lt_of_cell? w _ hw136_1)).trans hw136_1)⟩ (fun hHeld => ?_)
          clear hK K
          refine nm_ ?_
          refine pu_ 7 (some 29) (bq_ 8 0) HT_ ?_
          refine done_ (done_of HT_.out (by kernel_rfl)) ?_
          try go_wp2
          go_ret
          exact ⟨by first | rfl | (simp [errW_none, errW_some] <;> rfl) | (simp [*, errW_none, errW_some] <;> rfl), be_ HB.out⟩
      · rw [if_neg c6] at H
        have c6b0 : (((rd_T53 l0 x5_1).f0).toList == t135.toList) = false := beq_eq_false_iff_ne.mpr c6
        have c6b1 : (((rd_T53 l0 x5_1).f0).toList != t135.toList) = true := bne_iff_ne.mpr c6
        obtain rfl := Option.some.inj H
        try go_wp2
        have n0_ := Aside0.mk (below_drew1 HB.out)
        clear HB
        have HB := n0_
        clear n0_
        have p134 : 0 ≤ (x5_1 : Int) := of_decide_eq_true (by first | (with_reducible assumption) | assumption)
        have q134 : x5_1 < (l0.length : Int) := of_decide_eq_true (by first | (with_reducible assumption) | assumption)
        obtain ⟨ad134, e134, hx134_0, hx134_1⟩ := at_T53 HR0.out x5_1 p134 q134
        have hw134_1 := hx134_1
        have hw134_0 := hx134_0
        cases e134
        replace hx134_0 := (HB.out.cell (World.block_lt_of_cell? w _ hx134_0)).trans hx134_0
        replace hx134_1 := (HB.out.cell (World.block_lt_of_cell? w _ hx134_1)).trans hx134_1
        replace p134 := eq_true p134
        replace q134 := eq_true q134
        refine start_ (n := 8) (S := fun w' => w'.cell? (ad134.add ((x5_1).toNat * 2)) = some (.string ((rd_T53 l0 x5_1).f0)) ∧ w'.cell? ⟨(ad134.add ((x5_1).toNat * 2)).block, (ad134.add ((x5_1).toNat * 2)).off + 1, none⟩ = some (.string ((rd_T53 l0 x5_1).f1))) (ds := []) (bq_ 0 8) (by kernel_rfl) rfl rfl ⟨((HB.out.cell (World.block_lt_of_cell? w _ hw134_0)).trans hw134_0), ((HB.out.cell (World.block_lt_of_cell? w _ hw134_1)).trans hw134_1)⟩ (fun hHeld => ?_); refine with_tabW laws_heldPairS.tab4 laws_heldPairS.bits4 (fun HT_ HW_ => ?_)
        generalize wr.drew = w17 at HB hx134_0 hx134_1 hHeld ⊢
        refine pu_ 0 (some 12) (bq_ 1 7) HT_ ?_
        refine pu_ 1 (some 13) (bq_ 2 6) HT_ ?_
        refine pu_ 2 (some 14) (bq_ 3 5) HT_ ?_
        refine pu_ 3 (some 15) (bq_ 4 4) HT_ ?_
        refine pu_ 5 (some 17) #[true, true, true, true, false, true, false, false] HT_ ?_
        refine take_ (i := 4) (N := some 16) (v := ?_) (a' := ?_) (bq_ 6 2) rfl rfl (take_ofW HT_.out HW_.out (by kernel_rfl)) (fun _ _ _ h => h) (Or.inl ⟨by rfl, ?_⟩) hHeld ?_ ?_
        rotate_left
        · rintro w' ⟨s0, s1⟩
          go_simp
          with_reducible rfl
        rotate_left
        · simp only [Act.put, sa_, sz_, ss_, i64_w, i32_w]; rfl
        refine on_ 6 (some 18) (bq_ 7 1) HT_ (fun K hK => ?_)
        refine goes_ Try.func50 (by kernel_rfl) rfl #[.int .i64 x1_1] (by rfl) rfl rfl al_ ?_
        with_reducible refine (laws_markText.calls k1 x1_1 t135 _ A5.out).mono ?_
        rintro e w18 ⟨rfl, hb⟩
        refine ⟨_, rfl, ?_⟩
        have n0_ := Aside0.mk (below_step (be_ HB.out) hb)
        clear HB
        have HB := n0_
        clear n0_
        (try clear hb)
        (try clear hb2)
        (try clear hk)
        (try clear hi)
        refine hK.out _ _ ⟨((HB.out.cell (World.block_lt_of_cell? w _ hw134_0)).trans hw134_0), ((HB.out.cell (World.block_lt_of_cell? w _ hw134_1)).trans hw134_1)⟩ (fun hHeld => ?_)
        clear hK K
        refine nm_ ?_
        refine pu_ 7 (some 19) (bq_ 8 0) HT_ ?_
        refine done_ (done_of HT_.out (by kernel_rfl)) ?_
        try go_wp2
        go_ret
        exact ⟨by first | rfl | (simp [errW_none, errW_some] <;> rfl) | (simp [*, errW_none, errW_some] <;> rfl), be_ HB.out⟩
    · rw [if_neg c3] at H
      have c3b0 : decide (x5_1 < (l0.length : Int)) = false := decide_eq_false c3
      clear c3
      obtain rfl := Option.some.inj H
      go_wp2
      go_ret
      exact ⟨by first | rfl | (simp [errW_none, errW_some] <;> rfl) | (simp [*, errW_none, errW_some] <;> rfl), be_ HB.out⟩

end Go.Proofs.Ytamkjoflkkffhaa.P
