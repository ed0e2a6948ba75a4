-- Written by wip/xp/xp.py over the kit's print; Lean checks it.
import Derived.Test.YtamkjoflkkffhaaPx0
import Derived.Test.YtamkjoflkkffhaaPx2
namespace Go.Proofs.Ytamkjoflkkffhaa.P
open Go.RowKit Go.Proofs.YtamkjoflkkffhaaW.PrintWords Go.Proofs.YtamkjoflkkffhaaW.PrintLast Go.Proofs.YtamkjoflkkffhaaW.PrintMore
attribute [local go_sem] max2_int min2_int max_two min_two max_three min_three max_four min_four   -- for this text's walks alone
set_option linter.unusedVariables false
set_option linter.unusedSimpArgs false

/-! ###  laws_heldOpS: function 40 -/
def laws_heldOpS.l0 : Nat → List (S84) → Int → Int → Option (Int)
  | 0, _, _, _ => none
  | k + 1, x0, x1, x5 => if x5 < (x0.length : Int) then (if 0 ≤ x5 then (if ((rd_T84 x0 x5).f0) = x1 then ((laws_markText.f k (wrap64 (x1 + 1))).bind fun t702 => (if ((rd_T84 x0 x5).f1).toList = t702.toList then ((laws_markText.f k (wrap64 ((wrap64 (x1 + 1)) + 1))).bind fun t704 => (if ((rd_T84 x0 x5).f2).toList = t704.toList then (laws_heldOpS.l0 k x0 (wrap64 ((wrap64 ((wrap64 (x1 + 1)) + 1)) + 1)) (wrap64 (x5 + 1))) else (some (-1)))) else (some (-1)))) else (some (-1))) else (none)) else (some x1)
def laws_heldOpS.f (k : Nat) (l0 : List (S84)) (a1 : Int) : Option (Int) := laws_heldOpS.l0 k l0 a1 0
def laws_heldOpS.T7 : Bool × List (List Nat × List Nat) := (true, [([], []), ([], []), ([0, 1], [0, 1]), ([2], [2]), ([3], [3]), ([], []), ([5], [5]), ([4, 6], [4, 6])])
def laws_heldOpS.B7 : List Nat := [0, 0, 3, 7, 15, 0, 32, 127]
theorem laws_heldOpS.tab7 : rtab .any (opsOf Try.f40 7) = laws_heldOpS.T7 := by kernel_rfl
theorem laws_heldOpS.bits7 : waitsOk laws_heldOpS.T7.2 laws_heldOpS.B7 = true := by kernel_rfl
def laws_heldOpS.T10 : Bool × List (List Nat × List Nat) := (true, [([], []), ([], []), ([0, 1], [0, 1]), ([2], [2]), ([3], [3]), ([], []), ([5], [5]), ([4, 6], [4, 6])])
def laws_heldOpS.B10 : List Nat := [0, 0, 3, 7, 15, 0, 32, 127]
theorem laws_heldOpS.tab10 : rtab .any (opsOf Try.f40 10) = laws_heldOpS.T10 := by kernel_rfl
theorem laws_heldOpS.bits10 : waitsOk laws_heldOpS.T10.2 laws_heldOpS.B10 = true := by kernel_rfl
set_option maxHeartbeats 8000000 in
set_option maxRecDepth 100000 in
theorem laws_heldOpS.calls (k : Nat) (A0 : Option Addr) (c0 : Nat) (l0 : List (S84)) (a1 : Int) (r : Int) (w : World) (hr0 : Kd.C k84 w A0 l0.length l0) (hc0 : l0.length ≤ c0) (h : laws_heldOpS.f k l0 a1 = some r) :
  Calls Try.prog 40 #[.slice A0 l0.length c0, .int .i64 a1] w fun e w' => e = .returned (.int .i64 r) ∧ Below w.heap.size w w' := by
  have HR0 := Aside0.mk hr0
  have HC0 := Aside0.mk hc0
  clear hr0 hc0
  have HB := Aside0.mk (Below.refl w.heap.size w)
  have H : (laws_heldOpS.l0 k l0 a1 0) = some r := h
  clear h
  have H' := Aside0.mk H
  clear H
  go_enter Try.func40, Try.ntmps40
  go_wp2
  go_loopg [1, 5] k (fun kq v1 v5 w' => ∃ (x1_1 : Int) (x5_1 : Int), v1 = .int .i64 x1_1 ∧ v5 = .int .i64 x5_1 ∧ Aside0 (laws_heldOpS.l0 kq l0 x1_1 x5_1 = some r) ∧ Aside0 (kq ≤ k) ∧ Aside0 (Below w.heap.size w w'))
  case atStart => exact ⟨(a1), (0), (by first | rfl | (simp; done) | (simp [*]; done)), (by first | rfl | (simp; done) | (simp [*]; done)), H', ⟨Nat.le_refl _⟩, ⟨be_ HB.out⟩⟩
  case round =>
   clear H'
   try clear p2
   obtain ⟨x1_1, x5_1, rfl, rfl, HA, HK1, HB⟩ := hrel
   cases gk with
   | zero => exact absurd HA.out (by simp [laws_heldOpS.l0])
   | succ k1 =>
    have H := HA.out
    clear HA
    simp only [laws_heldOpS.l0] at H
    by_cases c3 : x5_1 < (l0.length : Int)
    · rw [if_pos c3] at H
      have c3b0 : decide (x5_1 < (l0.length : Int)) = true := decide_eq_true c3
      clear c3
      by_cases c4 : 0 ≤ x5_1
      rotate_left
      · rw [if_neg c4] at H; exact absurd H (by simp)
      rw [if_pos c4] at H
      have c4b0 : decide (0 ≤ x5_1) = true := decide_eq_true c4
      clear c4
      by_cases c5 : ((rd_T84 l0 x5_1).f0) = x1_1
      · rw [if_pos c5] at H
        have c5b0 : (((rd_T84 l0 x5_1).f0) == x1_1) = true := beq_iff_eq.mpr c5
        have c5b1 : (((rd_T84 l0 x5_1).f0) != x1_1) = false := bne_eq_false_iff_eq.mpr c5
        clear c5
        replace H := Option.bind_eq_some_iff.mp H
        obtain ⟨t702, A60, H⟩ := H
        have A6 := Aside0.mk A60
        clear A60
        by_cases c7 : ((rd_T84 l0 x5_1).f1).toList = t702.toList
        · rw [if_pos c7] at H
          have c7b0 : (((rd_T84 l0 x5_1).f1).toList == t702.toList) = true := beq_iff_eq.mpr c7
          have c7b1 : (((rd_T84 l0 x5_1).f1).toList != t702.toList) = false := bne_eq_false_iff_eq.mpr c7
          clear c7
          replace H := Option.bind_eq_some_iff.mp H
          obtain ⟨t704, A80, H⟩ := H
          have A8 := Aside0.mk A80
          clear A80
          by_cases c9 : ((rd_T84 l0 x5_1).f2).toList = t704.toList
          · rw [if_pos c9] at H
            have c9b0 : (((rd_T84 l0 x5_1).f2).toList == t704.toList) = true := beq_iff_eq.mpr c9
            have c9b1 : (((rd_T84 l0 x5_1).f2).toList != t704.toList) = false := bne_eq_false_iff_eq.mpr c9
            clear c9
            have H' := Aside0.mk H
            clear H
            have p700 : 0 ≤ (x5_1 : Int) := of_decide_eq_true (by first | (with_reducible assumption) | assumption)
            have q700 : x5_1 < (l0.length : Int) := of_decide_eq_true (by first | (with_reducible assumption) | assumption)
            obtain ⟨ad700, e700, hx700_0, hx700_1, hx700_2⟩ := at_T84 HR0.out x5_1 p700 q700
            cases e700
            replace hx700_0 := (HB.out.cell (World.block_lt_of_cell? w _ hx700_0)).trans hx700_0
            replace hx700_1 := (HB.out.cell (World.block_lt_of_cell? w _ hx700_1)).trans hx700_1
            replace hx700_2 := (HB.out.cell (World.block_lt_of_cell? w _ hx700_2)).trans hx700_2
            replace p700 := eq_true p700
            replace q700 := eq_true q700
            try go_wp2
            have n0_ := Aside0.mk (below_drew1 HB.out)
            clear HB
            have HB := n0_
            clear n0_
            have p701 : 0 ≤ (x5_1 : Int) := of_decide_eq_true (by first | (with_reducible assumption) | assumption)
            have q701 : x5_1 < (l0.length : Int) := of_decide_eq_true (by first | (with_reducible assumption) | assumption)
            obtain ⟨ad701, e701, hx701_0, hx701_1, hx701_2⟩ := at_T84 HR0.out x5_1 p701 q701
            have hw701_2 := hx701_2
            have hw701_1 := hx701_1
            have hw701_0 := hx701_0
            obtain rfl : ad700 = ad701 := (by injection e701)
            replace hx701_0 := (HB.out.cell (World.block_lt_of_cell? w _ hx701_0)).trans hx701_0
            replace hx701_1 := (HB.out.cell (World.block_lt_of_cell? w _ hx701_1)).trans hx701_1
            replace hx701_2 := (HB.out.cell (World.block_lt_of_cell? w _ hx701_2)).trans hx701_2
            replace p701 := eq_true p701
            replace q701 := eq_true q701
            refine start_ (n := 8) (S := fun w' => w'.cell? (ad700.add ((x5_1).toNat * 3)) = some (.int .i64 ((rd_T84 l0 x5_1).f0)) ∧ w'.cell? ⟨(ad700.add ((x5_1).toNat * 3)).block, (ad700.add ((x5_1).toNat * 3)).off + 1, none⟩ = some (.string ((rd_T84 l0 x5_1).f1)) ∧ w'.cell? ⟨(ad700.add ((x5_1).toNat * 3)).block, (ad700.add ((x5_1).toNat * 3)).off + 2, none⟩ = some (.string ((rd_T84 l0 x5_1).f2))) (ds := []) (bq_ 0 8) (by kernel_rfl) rfl rfl ⟨((HB.out.cell (World.block_lt_of_cell? w _ hw701_0)).trans hw701_0), ((HB.out.cell (World.block_lt_of_cell? w _ hw701_1)).trans hw701_1), ((HB.out.cell (World.block_lt_of_cell? w _ hw701_2)).trans hw701_2)⟩ (fun hHeld => ?_); refine with_tabW laws_heldOpS.tab7 laws_heldOpS.bits7 (fun HT_ HW_ => ?_)
            generalize wr.drew = w10 at HB hx701_0 hx701_1 hx701_2 hHeld ⊢
            refine pu_ 0 (some 21) (bq_ 1 7) HT_ ?_
            refine pu_ 1 (some 22) (bq_ 2 6) HT_ ?_
            refine pu_ 2 (some 23) (bq_ 3 5) HT_ ?_
            refine pu_ 3 (some 24) (bq_ 4 4) HT_ ?_
            refine pu_ 5 (some 26) #[true, true, true, true, false, true, false, false] HT_ ?_
            refine take_ (i := 4) (N := some 25) (v := ?_) (a' := ?_) (bq_ 6 2) rfl rfl (take_ofW HT_.out HW_.out (by kernel_rfl)) (fun _ _ _ h => h) (Or.inl ⟨by rfl, ?_⟩) hHeld ?_ ?_
            rotate_left
            · rintro w' ⟨s0, s1, s2⟩
              go_simp
              with_reducible rfl
            rotate_left
            · simp only [Act.put, sa_, sz_, ss_, i64_w, i32_w]; rfl
            refine on_ 6 (some 27) (bq_ 7 1) HT_ (fun K hK => ?_)
            refine goes_ Try.func50 (by kernel_rfl) rfl #[.int .i64 (wrap64 (x1_1 + 1))] (by rfl) rfl rfl al_ ?_
            with_reducible refine (laws_markText.calls k1 (wrap64 (x1_1 + 1)) t702 _ A6.out).mono ?_
            rintro e w11 ⟨rfl, hb⟩
            refine ⟨_, rfl, ?_⟩
            have n0_ := Aside0.mk (below_step (be_ HB.out) hb)
            clear HB
            have HB := n0_
            clear n0_
            (try clear hb)
            (try clear hb2)
            (try clear hk)
            (try clear hi)
            refine hK.out _ _ ⟨((HB.out.cell (World.block_lt_of_cell? w _ hw701_0)).trans hw701_0), ((HB.out.cell (World.block_lt_of_cell? w _ hw701_1)).trans hw701_1), ((HB.out.cell (World.block_lt_of_cell? w _ hw701_2)).trans hw701_2)⟩ (fun hHeld => ?_)
            clear hK K
            refine nm_ ?_
            refine pu_ 7 (some 28) (bq_ 8 0) HT_ ?_
            refine done_ (done_of HT_.out (by kernel_rfl)) ?_
            try go_wp2
            have n0_ := Aside0.mk (below_drew1 HB.out)
            clear HB
            have HB := n0_
            clear n0_
            have p703 : 0 ≤ (x5_1 : Int) := of_decide_eq_true (by first | (with_reducible assumption) | assumption)
            have q703 : x5_1 < (l0.length : Int) := of_decide_eq_true (by first | (with_reducible assumption) | assumption)
            obtain ⟨ad703, e703, hx703_0, hx703_1, hx703_2⟩ := at_T84 HR0.out x5_1 p703 q703
            have hw703_2 := hx703_2
            have hw703_1 := hx703_1
            have hw703_0 := hx703_0
            obtain rfl : ad700 = ad703 := (by injection e703)
            replace hx703_0 := (HB.out.cell (World.block_lt_of_cell? w _ hx703_0)).trans hx703_0
            replace hx703_1 := (HB.out.cell (World.block_lt_of_cell? w _ hx703_1)).trans hx703_1
            replace hx703_2 := (HB.out.cell (World.block_lt_of_cell? w _ hx703_2)).trans hx703_2
            replace p703 := eq_true p703
            replace q703 := eq_true q703
            refine start_ (n := 8) (S := fun w' => w'.cell? (ad700.add ((x5_1).toNat * 3)) = some (.int .i64 ((rd_T84 l0 x5_1).f0)) ∧ w'.cell? ⟨(ad700.add ((x5_1).toNat * 3)).block, (ad700.add ((x5_1).toNat * 3)).off + 1, none⟩ = some (.string ((rd_T84 l0 x5_1).f1)) ∧ w'.cell? ⟨(ad700.add ((x5_1).toNat * 3)).block, (ad700.add ((x5_1).toNat * 3)).off + 2, none⟩ = some (.string ((rd_T84 l0 x5_1).f2))) (ds := []) (bq_ 0 8) (by kernel_rfl) rfl rfl ⟨((HB.out.cell (World.block_lt_of_cell? w _ hw703_0)).trans hw703_0), ((HB.out.cell (World.block_lt_of_cell? w _ hw703_1)).trans hw703_1), ((HB.out.cell (World.block_lt_of_cell? w _ hw703_2)).trans hw703_2)⟩ (fun hHeld => ?_); refine with_tabW laws_heldOpS.tab10 laws_heldOpS.bits10 (fun HT_ HW_ => ?_)
            generalize w11.drew = w12 at HB hx703_0 hx703_1 hx703_2 hHeld ⊢
            refine pu_ 0 (some 31) (bq_ 1 7) HT_ ?_
            refine pu_ 1 (some 32) (bq_ 2 6) HT_ ?_
            refine pu_ 2 (some 33) (bq_ 3 5) HT_ ?_
            refine pu_ 3 (some 34) (bq_ 4 4) HT_ ?_
            refine pu_ 5 (some 36) #[true, true, true, true, false, true, false, false] HT_ ?_
            refine take_ (i := 4) (N := some 35) (v := ?_) (a' := ?_) (bq_ 6 2) rfl rfl (take_ofW HT_.out HW_.out (by kernel_rfl)) (fun _ _ _ h => h) (Or.inl ⟨by rfl, ?_⟩) hHeld ?_ ?_
            rotate_left
            · rintro w' ⟨s0, s1, s2⟩
              go_simp
              with_reducible rfl
            rotate_left
            · simp only [Act.put, sa_, sz_, ss_, i64_w, i32_w]; rfl
            refine on_ 6 (some 37) (bq_ 7 1) HT_ (fun K hK => ?_)
            refine goes_ Try.func50 (by kernel_rfl) rfl #[.int .i64 (wrap64 ((wrap64 (x1_1 + 1)) + 1))] (by rfl) rfl rfl al_ ?_
            with_reducible refine (laws_markText.calls k1 (wrap64 ((wrap64 (x1_1 + 1)) + 1)) t704 _ A8.out).mono ?_
            rintro e w13 ⟨rfl, hb⟩
            refine ⟨_, rfl, ?_⟩
            have n0_ := Aside0.mk (below_step (be_ HB.out) hb)
            clear HB
            have HB := n0_
            clear n0_
            (try clear hb)
            (try clear hb2)
            (try clear hk)
            (try clear hi)
            refine hK.out _ _ ⟨((HB.out.cell (World.block_lt_of_cell? w _ hw703_0)).trans hw703_0), ((HB.out.cell (World.block_lt_of_cell? w _ hw703_1)).trans hw703_1), ((HB.out.cell (World.block_lt_of_cell? w _ hw703_2)).trans hw703_2)⟩ (fun hHeld => ?_)
            clear hK K
            refine nm_ ?_
            refine pu_ 7 (some 38) (bq_ 8 0) HT_ ?_
            refine done_ (done_of HT_.out (by kernel_rfl)) ?_
            try go_wp2
            go_roundg k1
            case measure => have := HK1.out; omega
            case rel => exact ⟨(wrap64 ((wrap64 ((wrap64 (x1_1 + 1)) + 1)) + 1)), (wrap64 (x5_1 + 1)), (by first | rfl | (simp; done) | (simp [*]; done)), (by first | rfl | (simp; done) | (simp [*]; done)), H', ⟨by have := HK1.out; omega⟩, ⟨be_ HB.out⟩⟩
          · rw [if_neg c9] at H
            have c9b0 : (((rd_T84 l0 x5_1).f2).toList == t704.toList) = false := beq_eq_false_iff_ne.mpr c9
            have c9b1 : (((rd_T84 l0 x5_1).f2).toList != t704.toList) = true := bne_iff_ne.mpr c9
            obtain rfl := Option.some.inj H
            have p700 : 0 ≤ (x5_1 : Int) := of_decide_eq_true (by first | (with_reducible assumption) | assumption)
            have q700 : x5_1 < (l0.length : Int) := of_decide_eq_true (by first | (with_reducible assumption) | assumption)
            obtain ⟨ad700, e700, hx700_0, hx700_1, hx700_2⟩ := at_T84 HR0.out x5_1 p700 q700
            cases e700
            replace hx700_0 := (HB.out.cell (World.block_lt_of_cell? w _ hx700_0)).trans hx700_0
            replace hx700_1 := (HB.out.cell (World.block_lt_of_cell? w _ hx700_1)).trans hx700_1
            replace hx700_2 := (HB.out.cell (World.block_lt_of_cell? w _ hx700_2)).trans hx700_2
            replace p700 := eq_true p700
            replace q700 := eq_true q700
            try go_wp2
            have n0_ := Aside0.mk (below_drew1 HB.out)
            clear HB
            have HB := n0_
            clear n0_
            have p701 : 0 ≤ (x5_1 : Int) := of_decide_eq_true (by first | (with_reducible assumption) | assumption)
            have q701 : x5_1 < (l0.length : Int) := of_decide_eq_true (by first | (with_reducible assumption) | assumption)
            obtain ⟨ad701, e701, hx701_0, hx701_1, hx701_2⟩ := at_T84 HR0.out x5_1 p701 q701
            have hw701_2 := hx701_2
            have hw701_1 := hx701_1
            have hw701_0 := hx701_0
            obtain rfl : ad700 = ad701 := (by injection e701)
            replace hx701_0 := (HB.out.cell (World.block_lt_of_cell? w _ hx701_0)).trans hx701_0
            replace hx701_1 := (HB.out.cell (World.block_lt_of_cell? w _ hx701_1)).trans hx701_1
            replace hx701_2 := (HB.out.cell (World.block_lt_of_cell? w _ hx701_2)).trans hx701_2
            replace p701 := eq_true p701
            replace q701 := eq_true q701
            refine start_ (n := 8) (S := fun w' => w'.cell? (ad700.add ((x5_1).toNat * 3)) = some (.int .i64 ((rd_T84 l0 x5_1).f0)) ∧ w'.cell? ⟨(ad700.add ((x5_1).toNat * 3)).block, (ad700.add ((x5_1).toNat * 3)).off + 1, none⟩ = some (.string ((rd_T84 l0 x5_1).f1)) ∧ w'.cell? ⟨(ad700.add ((x5_1).toNat * 3)).block, (ad700.add ((x5_1).toNat * 3)).off + 2, none⟩ = some (.string ((rd_T84 l0 x5_1).f2))) (ds := []) (bq_ 0 8) (by kernel_rfl) rfl rfl ⟨((HB.out.cell (World.block_lt_of_cell? w _ hw701_0)).trans hw701_0), ((HB.out.cell (World.block_lt_of_cell? w _ hw701_1)).trans hw701_1), ((HB.out.cell (World.block_lt_of_cell? w _ hw701_2)).trans hw701_2)⟩ (fun hHeld => ?_); refine with_tabW laws_heldOpS.tab7 laws_heldOpS.bits7 (fun HT_ HW_ => ?_)
            generalize wr.drew = w14 at HB hx701_0 hx701_1 hx701_2 hHeld ⊢
            refine pu_ 0 (some 21) (bq_ 1 7) HT_ ?_
            refine pu_ 1 (some 22) (bq_ 2 6) HT_ ?_
            refine pu_ 2 (some 23) (bq_ 3 5) HT_ ?_
            refine pu_ 3 (some 24) (bq_ 4 4) HT_ ?_
            refine pu_ 5 (some 26) #[true, true, true, true, false, true, false, false] HT_ ?_
            refine take_ (i := 4) (N := some 25) (v := ?_) (a' := ?_) (bq_ 6 2) rfl rfl (take_ofW HT_.out HW_.out (by kernel_rfl)) (fun _ _ _ h => h) (Or.inl ⟨by rfl, ?_⟩) hHeld ?_ ?_
            rotate_left
            · rintro w' ⟨s0, s1, s2⟩
              go_simp
              with_reducible rfl
            rotate_left
            · simp only [Act.put, sa_, sz_, ss_, i64_w, i32_w]; rfl
            refine on_ 6 (some 27) (bq_ 7 1) HT_ (fun K hK => ?_)
            refine goes_ Try.func50 (by kernel_rfl) rfl #[.int .i64 (wrap64 (x1_1 + 1))] (by rfl) rfl rfl al_ ?_
            with_reducible refine (laws_markText.calls k1 (wrap64 (x1_1 + 1)) t702 _ A6.out).mono ?_
            rintro e w15 ⟨rfl, hb⟩
            refine ⟨_, rfl, ?_⟩
            have n0_ := Aside0.mk (below_step (be_ HB.out) hb)
            clear HB
            have HB := n0_
            clear n0_
            (try clear hb)
            (try clear hb2)
            (try clear hk)
            (try clear hi)
            refine hK.out _ _ ⟨((HB.out.cell (World.block_lt_of_cell? w _ hw701_0)).trans hw701_0), ((HB.out.cell (World.block_lt_of_cell? w _ hw701_1)).trans hw701_1), ((HB.out.cell (World.block_lt_of_cell? w _ hw701_2)).trans hw701_2)⟩ (fun hHeld => ?_)
            clear hK K
            refine nm_ ?_
            refine pu_ 7 (some 28) (bq_ 8 0) HT_ ?_
            refine done_ (done_of HT_.out (by kernel_rfl)) ?_
            try go_wp2
            have n0_ := Aside0.mk (below_drew1 HB.out)
            clear HB
            have HB := n0_
            clear n0_
            have p703 : 0 ≤ (x5_1 : Int) := of_decide_eq_true (by first | (with_reducible assumption) | assumption)
            have q703 : x5_1 < (l0.length : Int) := of_decide_eq_true (by first | (with_reducible assumption) | assumption)
            obtain ⟨ad703, e703, hx703_0, hx703_1, hx703_2⟩ := at_T84 HR0.out x5_1 p703 q703
            have hw703_2 := hx703_2
            have hw703_1 := hx703_1
            have hw703_0 := hx703_0
            obtain rfl : ad700 = ad703 := (by injection e703)
            replace hx703_0 := (HB.out.cell (World.block_lt_of_cell? w _ hx703_0)).trans hx703_0
            replace hx703_1 := (HB.out.cell (World.block_lt_of_cell? w _ hx703_1)).trans hx703_1
            replace hx703_2 := (HB.out.cell (World.block_lt_of_cell? w _ hx703_2)).trans hx703_2
            replace p703 := eq_true p703
            replace q703 := eq_true q703
            refine start_ (n := 8) (S := fun w' => w'.cell? (ad700.add ((x5_1).toNat * 3)) = some (.int .i64 ((rd_T84 l0 x5_1).f0)) ∧ w'.cell? ⟨(ad700.add ((x5_1).toNat * 3)).block, (ad700.add ((x5_1).toNat * 3)).off + 1, none⟩ = some (.string ((rd_T84 l0 x5_1).f1)) ∧ w'.cell? ⟨(ad700.add ((x5_1).toNat * 3)).block, (ad700.add ((x5_1).toNat * 3)).off + 2, none⟩ = some (.string ((rd_T84 l0 x5_1).f2))) (ds := []) (bq_ 0 8) (by kernel_rfl) rfl rfl ⟨((HB.out.cell (World.block_lt_of_cell? w _ hw703_0)).trans hw703_0), ((HB.out.cell (World.block_lt_of_cell? w _ hw703_1)).trans hw703_1), ((HB.out.cell (World.block_lt_of_cell? w _ hw703_2)).trans hw703_2)⟩ (fun hHeld => ?_); refine with_tabW laws_heldOpS.tab10 laws_heldOpS.bits10 (fun HT_ HW_ => ?_)
            generalize w15.drew = w16 at HB hx703_0 hx703_1 hx703_2 hHeld ⊢
            refine pu_ 0 (some 31) (bq_ 1 7) HT_ ?_
            refine pu_ 1 (some 32) (bq_ 2 6) HT_ ?_
            refine pu_ 2 (some 33) (bq_ 3 5) HT_ ?_
            refine pu_ 3 (some 34) (bq_ 4 4) HT_ ?_
            refine pu_ 5 (some 36) #[true, true, true, true, false, true, false, false] HT_ ?_
            refine take_ (i := 4) (N := some 35) (v := ?_) (a' := ?_) (bq_ 6 2) rfl rfl (take_ofW HT_.out HW_.out (by kernel_rfl)) (fun _ _ _ h => h) (Or.inl ⟨by rfl, ?_⟩) hHeld ?_ ?_
            rotate_left
            · rintro w' ⟨s0, s1, s2⟩
              go_simp
              with_reducible rfl
            rotate_left
            · simp only [Act.put, sa_, sz_, ss_, i64_w, i32_w]; rfl
            refine on_ 6 (some 37) (bq_ 7 1) HT_ (fun K hK => ?_)
            refine goes_ Try.func50 (by kernel_rfl) rfl #[.int .i64 (wrap64 ((wrap64 (x1_1 + 1)) + 1))] (by rfl) rfl rfl al_ ?_
            with_reducible refine (laws_markText.calls k1 (wrap64 ((wrap64 (x1_1 + 1)) + 1)) t704 _ A8.out).mono ?_
            rintro e w17 ⟨rfl, hb⟩
            refine ⟨_, rfl, ?_⟩
            have n0_ := Aside0.mk (below_step (be_ HB.out) hb)
            clear HB
            have HB := n0_
            clear n0_
            (try clear hb)
            (try clear hb2)
            (try clear hk)
            (try clear hi)
            refine hK.out _ _ ⟨((HB.out.cell (World.block_lt_of_cell? w _ hw703_0)).trans hw703_0), ((HB.out.cell (World.block_lt_of_cell? w _ hw703_1)).trans hw703_1), ((HB.out.cell (World.block_lt_of_cell? w _ hw703_2)).trans hw703_2)⟩ (fun hHeld => ?_)
            clear hK K
            refine nm_ ?_
            refine pu_ 7 (some 38) (bq_ 8 0) HT_ ?_
            refine done_ (done_of HT_.out (by kernel_rfl)) ?_
            try go_wp2
            go_ret
            exact ⟨by first | rfl | (simp [errW_none, errW_some] <;> rfl) | (simp [*, errW_none, errW_some] <;> rfl), be_ HB.out⟩
        · rw [if_neg c7] at H
          have c7b0 : (((rd_T84 l0 x5_1).f1).toList == t702.toList) = false := beq_eq_false_iff_ne.mpr c7
          have c7b1 : (((rd_T84 l0 x5_1).f1).toList != t702.toList) = true := bne_iff_ne.mpr c7
          obtain rfl := Option.some.inj H
          have p700 : 0 ≤ (x5_1 : Int) := of_decide_eq_true (by first | (with_reducible assumption) | assumption)
          have q700 : x5_1 < (l0.length : Int) := of_decide_eq_true (by first | (with_reducible assumption) | assumption)
          obtain ⟨ad700, e700, hx700_0, hx700_1, hx700_2⟩ := at_T84 HR0.out x5_1 p700 q700
          cases e700
          replace hx700_0 := (HB.out.cell (World.block_lt_of_cell? w _ hx700_0)).trans hx700_0
          replace hx700_1 := (HB.out.cell (World.block_lt_of_cell? w _ hx700_1)).trans hx700_1
          replace hx700_2 := (HB.out.cell (World.block_lt_of_cell? w _ hx700_2)).trans hx700_2
          replace p700 := eq_true p700
          replace q700 := eq_true q700
          try go_wp2
          have n0_ := Aside0.mk (below_drew1 HB.out)
          clear HB
          have HB := n0_
          clear n0_
          have p701 : 0 ≤ (x5_1 : Int) := of_decide_eq_true (by first | (with_reducible assumption) | assumption)
          have q701 : x5_1 < (l0.length : Int) := of_decide_eq_true (by first | (with_reducible assumption) | assumption)
          obtain ⟨ad701, e701, hx701_0, hx701_1, hx701_2⟩ := at_T84 HR0.out x5_1 p701 q701
          have hw701_2 := hx701_2
          have hw701_1 := hx701_1
          have hw701_0 := hx701_0
          obtain rfl : ad700 = ad701 := (by injection e701)
          replace hx701_0 := (HB.out.cell (World.block_lt_of_cell? w _ hx701_0)).trans hx701_0
          replace hx701_1 := (HB.out.cell (World.block_lt_of_cell? w _ hx701_1)).trans hx701_1
          replace hx701_2 := (HB.out.cell (World.block_lt_of_cell? w _ hx701_2)).trans hx701_2
          replace p701 := eq_true p701
          replace q701 := eq_true q701
          refine start_ (n := 8) (S := fun w' => w'.cell? (ad700.add ((x5_1).toNat * 3)) = some (.int .i64 ((rd_T84 l0 x5_1).f0)) ∧ w'.cell? ⟨(ad700.add ((x5_1).toNat * 3)).block, (ad700.add ((x5_1).toNat * 3)).off + 1, none⟩ = some (.string ((rd_T84 l0 x5_1).f1)) ∧ w'.cell? ⟨(ad700.add ((x5_1).toNat * 3)).block, (ad700.add ((x5_1).toNat * 3)).off + 2, none⟩ = some (.string ((rd_T84 l0 x5_1).f2))) (ds := []) (bq_ 0 8) (by kernel_rfl) rfl rfl ⟨((HB.out.cell (World.block_lt_of_cell? w _ hw701_0)).trans hw701_0), ((HB.out.cell (World.block_lt_of_cell? w _ hw701_1)).trans hw701_1), ((HB.out.cell (World.block_lt_of_cell? w _ hw701_2)).trans hw701_2)⟩ (fun hHeld => ?_); refine with_tabW laws_heldOpS.tab7 laws_heldOpS.bits7 (fun HT_ HW_ => ?_)
          generalize wr.drew = w18 at HB hx701_0 hx701_1 hx701_2 hHeld ⊢
          refine pu_ 0 (some 21) (bq_ 1 7) HT_ ?_
          refine pu_ 1 (some 22) (bq_ 2 6) HT_ ?_
          refine pu_ 2 (some 23) (bq_ 3 5) HT_ ?_
          refine pu_ 3 (some 24) (bq_ 4 4) HT_ ?_
          refine pu_ 5 (some 26) #[true, true, true, true, false, true, false, false] HT_ ?_
          refine take_ (i := 4) (N := some 25) (v := ?_) (a' := ?_) (bq_ 6 2) rfl rfl (take_ofW HT_.out HW_.out (by kernel_rfl)) (fun _ _ _ h => h) (Or.inl ⟨by rfl, ?_⟩) hHeld ?_ ?_
          rotate_left
          · rintro w' ⟨s0, s1, s2⟩
            go_simp
            with_reducible rfl
          rotate_left
          · simp only [Act.put, sa_, sz_, ss_, i64_w, i32_w]; rfl
          refine on_ 6 (some 27) (bq_ 7 1) HT_ (fun K hK => ?_)
          refine goes_ Try.func50 (by kernel_rfl) rfl #[.int .i64 (wrap64 (x1_1 + 1))] (by rfl) rfl rfl al_ ?_
          with_reducible refine (laws_markText.calls k1 (wrap64 (x1_1 + 1)) t702 _ A6.out).mono ?_
          rintro e w19 ⟨rfl, hb⟩
          refine ⟨_, rfl, ?_⟩
          have n0_ := Aside0.mk (below_step (be_ HB.out) hb)
          clear HB
          have HB := n0_
          clear n0_
          (try clear hb)
          (try clear hb2)
          (try clear hk)
          (try clear hi)
          refine hK.out _ _ ⟨((HB.out.cell (World.block_lt_of_cell? w _ hw701_0)).trans hw701_0), ((HB.out.cell (World.block_lt_of_cell? w _ hw701_1)).trans hw701_1), ((HB.out.cell (World.block_lt_of_cell? w _ hw701_2)).trans hw701_2)⟩ (fun hHeld => ?_)
          clear hK K
          refine nm_ ?_
          refine pu_ 7 (some 28) (bq_ 8 0) HT_ ?_
          refine done_ (done_of HT_.out (by kernel_rfl)) ?_
          try go_wp2
          go_ret
          exact ⟨by first | rfl | (simp [errW_none, errW_some] <;> rfl) | (simp [*, errW_none, errW_some] <;> rfl), be_ HB.out⟩
      · rw [if_neg c5] at H
        have c5b0 : (((rd_T84 l0 x5_1).f0) == x1_1) = false := beq_eq_false_iff_ne.mpr c5
        have c5b1 : (((rd_T84 l0 x5_1).f0) != x1_1) = true := bne_iff_ne.mpr c5
        obtain rfl := Option.some.inj H
        have p700 : 0 ≤ (x5_1 : Int) := of_decide_eq_true (by first | (with_reducible assumption) | assumption)
        have q700 : x5_1 < (l0.length : Int) := of_decide_eq_true (by first | (with_reducible assumption) | assumption)
        obtain ⟨ad700, e700, hx700_0, hx700_1, hx700_2⟩ := at_T84 HR0.out x5_1 p700 q700
        cases e700
        replace hx700_0 := (HB.out.cell (World.block_lt_of_cell? w _ hx700_0)).trans hx700_0
        replace hx700_1 := (HB.out.cell (World.block_lt_of_cell? w _ hx700_1)).trans hx700_1
        replace hx700_2 := (HB.out.cell (World.block_lt_of_cell? w _ hx700_2)).trans hx700_2
        replace p700 := eq_true p700
        replace q700 := eq_true q700
        go_wp2
        go_ret
        exact ⟨by first | rfl | (simp [errW_none, errW_some] <;> rfl) | (simp [*, errW_none, errW_some] <;> rfl), be_ HB.out⟩
    · rw [if_neg c3] at H
      have c3b0 : decide (x5_1 < (l0.length : Int)) = false := decide_eq_false c3
      clear c3
      obtain rfl := Option.some.inj H
      go_wp2
      go_ret
      exact ⟨by first | rfl | (simp [errW_none, errW_some] <;> rfl) | (simp [*, errW_none, errW_some] <;> rfl), be_ HB.out⟩

end Go.Proofs.Ytamkjoflkkffhaa.P
