-- Written by wip/xp/xp.py over the kit's print; Lean checks it.
import Derived.Test.YtamkjoflkkffhaaStr
import Derived.Test.YtamkjoflkkffhaaPx0
import Derived.Test.YtamkjoflkkffhaaPx20
import Derived.Test.YtamkjoflkkffhaaPx37
namespace Go.Proofs.Ytamkjoflkkffhaa.P
open Go.RowKit Go.Proofs.YtamkjoflkkffhaaW.PrintWords Go.Proofs.YtamkjoflkkffhaaW.PrintLast Go.Proofs.YtamkjoflkkffhaaW.PrintMore
attribute [local go_sem] max2_int min2_int max_two min_two max_three min_three max_four min_four   -- for this text's walks alone
set_option linter.unusedVariables false
set_option linter.unusedSimpArgs false

/-! ###  spec_OpsOk: function 64 -/
def spec_OpsOk.l0 : Nat → List (S84) → Int → Option (Bool)
  | 0, _, _ => none
  | k + 1, x0, x3 => if x3 < (x0.length : Int) then (if 0 ≤ x3 then ((spec_l7Op.f k ((rd_T84 x0 x3).f0) ((rd_T84 x0 x3).f1) ((rd_T84 x0 x3).f2)).bind fun t625 => (if t625 = true then (if x3 > 0 then (if 0 ≤ (wrap64 (x3 - 1)) then (if (wrap64 (x3 - 1)) < (x0.length : Int) then (if ((Op.bytesLess (((rd_T84 x0 (wrap64 (x3 - 1))).f1).toList) (((rd_T84 x0 x3).f1).toList)) = true) then (spec_OpsOk.l0 k x0 (wrap64 (x3 + 1))) else (some false)) else (none)) else (none)) else (spec_OpsOk.l0 k x0 (wrap64 (x3 + 1)))) else (some false))) else (none)) else ((spec_l1In.f (x0.length : Int) 1 8).bind fun t628 => (some t628))
def spec_OpsOk.f (k : Nat) (l0 : List (S84)) : Option (Bool) := spec_OpsOk.l0 k l0 0
def spec_OpsOk.T4 : Bool × List (List Nat × List Nat) := (true, [([], []), ([], []), ([0, 1], [0, 1]), ([2], [2]), ([3], [3]), ([4], [4]), ([5, 4], [5]), ([6], [6]), ([7, 6], [6, 7]), ([8, 6, 6], [6, 8]), ([9], [9]), ([9], [9]), ([11, 9], [9, 11]), ([10, 12, 9], [9, 10, 12]), ([13, 9], [9, 13]), ([14, 9], [9, 14]), ([9], [9]), ([9], [9]), ([16, 17, 9], [9, 16, 17]), ([18, 9], [9, 18]), ([19, 9], [9, 19]), ([15, 20, 9], [9, 15, 20]), ([9, 21, 6], [6, 9, 21]), ([6, 22], [6, 22])])
def spec_OpsOk.B4 : List Nat := [0, 0, 3, 7, 15, 31, 63, 127, 255, 511, 1023, 1023, 3071, 8191, 16383, 32767, 1023, 1023, 197631, 459775, 984063, 2097151, 4194303, 8388607]
theorem spec_OpsOk.tab4 : rtab .any (opsOf Try.f64 4) = spec_OpsOk.T4 := by kernel_rfl
theorem spec_OpsOk.bits4 : waitsOk spec_OpsOk.T4.2 spec_OpsOk.B4 = true := by kernel_rfl
set_option maxHeartbeats 8000000 in
set_option maxRecDepth 100000 in
theorem spec_OpsOk.calls (k : Nat) (A0 : Option Addr) (c0 : Nat) (l0 : List (S84)) (r : Bool) (w : World) (hr0 : Kd.C k84 w A0 l0.length l0) (hc0 : l0.length ≤ c0) (h : spec_OpsOk.f k l0 = some r) :
  Calls Try.prog 64 #[.slice A0 l0.length c0] w fun e w' => e = .returned (.bool r) ∧ Below w.heap.size w w' := by
  have hu84 := Try.underlying84
  have HR0 := Aside0.mk hr0
  have HC0 := Aside0.mk hc0
  clear hr0 hc0
  have HB := Aside0.mk (Below.refl w.heap.size w)
  have H : (spec_OpsOk.l0 k l0 0) = some r := h
  clear h
  have H' := Aside0.mk H
  clear H
  go_enter Try.func64, Try.ntmps64
  go_wp2
  go_loopg [3] k (fun kq v3 w' => ∃ (x3_1 : Int), v3 = .int .i64 x3_1 ∧ Aside0 (spec_OpsOk.l0 kq l0 x3_1 = some r) ∧ Aside0 (kq ≤ k) ∧ Aside0 (Below w.heap.size w w'))
  case atStart => exact ⟨(0), (by first | rfl | (simp; done) | (simp [*]; done)), H', ⟨Nat.le_refl _⟩, ⟨be_ HB.out⟩⟩
  case round =>
   clear H'
   obtain ⟨x3_1, rfl, HA, HK1, HB⟩ := hrel
   cases gk with
   | zero => exact absurd HA.out (by simp [spec_OpsOk.l0])
   | succ k1 =>
    have H := HA.out
    clear HA
    simp only [spec_OpsOk.l0] at H
    by_cases c2 : x3_1 < (l0.length : Int)
    · rw [if_pos c2] at H
      have c2b0 : decide (x3_1 < (l0.length : Int)) = true := decide_eq_true c2
      clear c2
      by_cases c3 : 0 ≤ x3_1
      rotate_left
      · rw [if_neg c3] at H; exact absurd H (by simp)
      rw [if_pos c3] at H
      have c3b0 : decide (0 ≤ x3_1) = true := decide_eq_true c3
      clear c3
      replace H := Option.bind_eq_some_iff.mp H
      obtain ⟨t625, A40, H⟩ := H
      have A4 := Aside0.mk A40
      clear A40
      by_cases c5 : t625 = true
      · subst c5
        have H1 : (if x3_1 > 0 then (if 0 ≤ (wrap64 (x3_1 - 1)) then (if (wrap64 (x3_1 - 1)) < (l0.length : Int) then (if ((Op.bytesLess (((rd_T84 l0 (wrap64 (x3_1 - 1))).f1).toList) (((rd_T84 l0 x3_1).f1).toList)) = true) then (spec_OpsOk.l0 k1 l0 (wrap64 (x3_1 + 1))) else (some false)) else (none)) else (none)) else (spec_OpsOk.l0 k1 l0 (wrap64 (x3_1 + 1)))) = some r := by rw [if_pos rfl] at H; exact H
        clear H
        have H := H1
        clear H1
        by_cases c6 : x3_1 > 0
        · rw [if_pos c6] at H
          have c6b0 : decide (0 < x3_1) = true := decide_eq_true c6
          clear c6
          obtain ⟨ji7, hji7⟩ : ∃ j_ : Int, (wrap64 (x3_1 - 1)) = j_ := ⟨_, rfl⟩
          replace H : (if 0 ≤ (ji7) then (if (ji7) < (l0.length : Int) then (if ((Op.bytesLess (((rd_T84 l0 (ji7)).f1).toList) (((rd_T84 l0 x3_1).f1).toList)) = true) then (spec_OpsOk.l0 k1 l0 (wrap64 (x3_1 + 1))) else (some false)) else (none)) else (none)) = some r := by first | (rw [hji7] at H; exact H) | (simp only [hji7] at H ⊢; exact H)
          (try rw [hji7] at A4)
          have hji7w : (IntKind.i64.wrap (x3_1 - 1)) = ji7 := (i64_w _).trans hji7
          by_cases c8 : 0 ≤ (ji7)
          rotate_left
          · rw [if_neg c8] at H; exact absurd H (by simp)
          rw [if_pos c8] at H
          have c8b0 : decide (0 ≤ (ji7)) = true := decide_eq_true c8
          clear c8
          by_cases c9 : (ji7) < (l0.length : Int)
          rotate_left
          · rw [if_neg c9] at H; exact absurd H (by simp)
          rw [if_pos c9] at H
          have c9b0 : decide ((ji7) < (l0.length : Int)) = true := decide_eq_true c9
          clear c9
          by_cases c10 : ((Op.bytesLess (((rd_T84 l0 (ji7)).f1).toList) (((rd_T84 l0 x3_1).f1).toList)) = true)
          · rw [if_pos c10] at H
            have c10b0 : (Op.bytesLess (((rd_T84 l0 (ji7)).f1).toList) (((rd_T84 l0 x3_1).f1).toList)) = true := c10
            clear c10
            have H' := Aside0.mk H
            clear H
            try go_wp2
            have n0_ := Aside0.mk (below_drew1 HB.out)
            clear HB
            have HB := n0_
            clear n0_
            have p624 : 0 ≤ (x3_1 : Int) := of_decide_eq_true (by first | (with_reducible assumption) | assumption)
            have q624 : x3_1 < (l0.length : Int) := of_decide_eq_true (by first | (with_reducible assumption) | assumption)
            obtain ⟨ad624, e624, hx624_0, hx624_1, hx624_2⟩ := at_T84 HR0.out x3_1 p624 q624
            have hw624_2 := hx624_2
            have hw624_1 := hx624_1
            have hw624_0 := hx624_0
            cases e624
            replace hx624_0 := (HB.out.cell (World.block_lt_of_cell? w _ hx624_0)).trans hx624_0
            replace hx624_1 := (HB.out.cell (World.block_lt_of_cell? w _ hx624_1)).trans hx624_1
            replace hx624_2 := (HB.out.cell (World.block_lt_of_cell? w _ hx624_2)).trans hx624_2
            replace p624 := eq_true p624
            replace q624 := eq_true q624
            have p626 : 0 ≤ ((ji7) : Int) := of_decide_eq_true (by first | (with_reducible assumption) | assumption)
            have q626 : (ji7) < (l0.length : Int) := of_decide_eq_true (by first | (with_reducible assumption) | assumption)
            obtain ⟨ad626, e626, hx626_0, hx626_1, hx626_2⟩ := at_T84 HR0.out (ji7) p626 q626
            have hw626_2 := hx626_2
            have hw626_1 := hx626_1
            have hw626_0 := hx626_0
            obtain rfl : ad624 = ad626 := (by injection e626)
            replace hx626_0 := (HB.out.cell (World.block_lt_of_cell? w _ hx626_0)).trans hx626_0
            replace hx626_1 := (HB.out.cell (World.block_lt_of_cell? w _ hx626_1)).trans hx626_1
            replace hx626_2 := (HB.out.cell (World.block_lt_of_cell? w _ hx626_2)).trans hx626_2
            replace p626 := eq_true p626
            replace q626 := eq_true q626
            have p627 : 0 ≤ (x3_1 : Int) := of_decide_eq_true (by first | (with_reducible assumption) | assumption)
            have q627 : x3_1 < (l0.length : Int) := of_decide_eq_true (by first | (with_reducible assumption) | assumption)
            obtain ⟨ad627, e627, hx627_0, hx627_1, hx627_2⟩ := at_T84 HR0.out x3_1 p627 q627
            have hw627_2 := hx627_2
            have hw627_1 := hx627_1
            have hw627_0 := hx627_0
            obtain rfl : ad624 = ad627 := (by injection e627)
            replace hx627_0 := (HB.out.cell (World.block_lt_of_cell? w _ hx627_0)).trans hx627_0
            replace hx627_1 := (HB.out.cell (World.block_lt_of_cell? w _ hx627_1)).trans hx627_1
            replace hx627_2 := (HB.out.cell (World.block_lt_of_cell? w _ hx627_2)).trans hx627_2
            replace p627 := eq_true p627
            replace q627 := eq_true q627
            refine start_ (n := 24) (S := fun w' => w'.cell? (ad624.add ((x3_1).toNat * 3)) = some (.int .i64 ((rd_T84 l0 x3_1).f0)) ∧ w'.cell? ⟨(ad624.add ((x3_1).toNat * 3)).block, (ad624.add ((x3_1).toNat * 3)).off + 1, none⟩ = some (.string ((rd_T84 l0 x3_1).f1)) ∧ w'.cell? ⟨(ad624.add ((x3_1).toNat * 3)).block, (ad624.add ((x3_1).toNat * 3)).off + 2, none⟩ = some (.string ((rd_T84 l0 x3_1).f2)) ∧ w'.cell? (ad624.add (((ji7)).toNat * 3)) = some (.int .i64 ((rd_T84 l0 (ji7)).f0)) ∧ w'.cell? ⟨(ad624.add (((ji7)).toNat * 3)).block, (ad624.add (((ji7)).toNat * 3)).off + 1, none⟩ = some (.string ((rd_T84 l0 (ji7)).f1)) ∧ w'.cell? ⟨(ad624.add (((ji7)).toNat * 3)).block, (ad624.add (((ji7)).toNat * 3)).off + 2, none⟩ = some (.string ((rd_T84 l0 (ji7)).f2)) ∧ w'.cell? (ad624.add ((x3_1).toNat * 3)) = some (.int .i64 ((rd_T84 l0 x3_1).f0)) ∧ w'.cell? ⟨(ad624.add ((x3_1).toNat * 3)).block, (ad624.add ((x3_1).toNat * 3)).off + 1, none⟩ = some (.string ((rd_T84 l0 x3_1).f1)) ∧ w'.cell? ⟨(ad624.add ((x3_1).toNat * 3)).block, (ad624.add ((x3_1).toNat * 3)).off + 2, none⟩ = some (.string ((rd_T84 l0 x3_1).f2))) (ds := []) (bq_ 0 24) (by kernel_rfl) rfl rfl ⟨((HB.out.cell (World.block_lt_of_cell? w _ hw624_0)).trans hw624_0), ((HB.out.cell (World.block_lt_of_cell? w _ hw624_1)).trans hw624_1), ((HB.out.cell (World.block_lt_of_cell? w _ hw624_2)).trans hw624_2), ((HB.out.cell (World.block_lt_of_cell? w _ hw626_0)).trans hw626_0), ((HB.out.cell (World.block_lt_of_cell? w _ hw626_1)).trans hw626_1), ((HB.out.cell (World.block_lt_of_cell? w _ hw626_2)).trans hw626_2), ((HB.out.cell (World.block_lt_of_cell? w _ hw627_0)).trans hw627_0), ((HB.out.cell (World.block_lt_of_cell? w _ hw627_1)).trans hw627_1), ((HB.out.cell (World.block_lt_of_cell? w _ hw627_2)).trans hw627_2)⟩ (fun hHeld => ?_); refine with_tabW spec_OpsOk.tab4 spec_OpsOk.bits4 (fun HT_ HW_ => ?_)
            generalize wr.drew = w11 at HB hx624_0 hx624_1 hx624_2 hx626_0 hx626_1 hx626_2 hx627_0 hx627_1 hx627_2 hHeld ⊢
            refine pu_ 0 (some 10) (bq_ 1 23) HT_ ?_
            refine pu_ 1 (some 11) (bq_ 2 22) HT_ ?_
            refine pu_ 2 (some 12) (bq_ 3 21) HT_ ?_
            refine take_ (i := 3) (N := some 13) (v := ?_) (a' := ?_) (bq_ 4 20) rfl rfl (take_ofW HT_.out HW_.out (by kernel_rfl)) (fun _ _ _ h => h) (Or.inl ⟨by rfl, ?_⟩) hHeld ?_ ?_
            rotate_left
            · rintro w' ⟨s0, s1, s2, s3, s4, s5, s6, s7, s8⟩
              go_simp
              with_reducible rfl
            rotate_left
            · simp only [Act.put, sa_, sz_, ss_, i64_w, i32_w]; rfl
            refine on_ 4 (some 14) (bq_ 5 19) HT_ (fun K hK => ?_)
            refine goes_ Try.func85 (by kernel_rfl) rfl #[.agg #[.int .i64 ((rd_T84 l0 x3_1).f0), .string ((rd_T84 l0 x3_1).f1), .string ((rd_T84 l0 x3_1).f2)]] (by rfl) rfl rfl al_ ?_
            with_reducible refine (spec_l7Op.calls k1 ((rd_T84 l0 x3_1).f0) ((rd_T84 l0 x3_1).f1) ((rd_T84 l0 x3_1).f2) true _ A4.out).mono ?_
            rintro e w12 ⟨rfl, hb⟩
            refine ⟨_, rfl, ?_⟩
            have n0_ := Aside0.mk (below_step (be_ HB.out) hb)
            clear HB
            have HB := n0_
            clear n0_
            (try clear hb)
            (try clear hb2)
            (try clear hk)
            (try clear hi)
            refine hK.out _ _ ⟨((HB.out.cell (World.block_lt_of_cell? w _ hw624_0)).trans hw624_0), ((HB.out.cell (World.block_lt_of_cell? w _ hw624_1)).trans hw624_1), ((HB.out.cell (World.block_lt_of_cell? w _ hw624_2)).trans hw624_2), ((HB.out.cell (World.block_lt_of_cell? w _ hw626_0)).trans hw626_0), ((HB.out.cell (World.block_lt_of_cell? w _ hw626_1)).trans hw626_1), ((HB.out.cell (World.block_lt_of_cell? w _ hw626_2)).trans hw626_2), ((HB.out.cell (World.block_lt_of_cell? w _ hw627_0)).trans hw627_0), ((HB.out.cell (World.block_lt_of_cell? w _ hw627_1)).trans hw627_1), ((HB.out.cell (World.block_lt_of_cell? w _ hw627_2)).trans hw627_2)⟩ (fun hHeld => ?_)
            clear hK K
            refine nm_ ?_
            refine pu_ 5 (some 15) (bq_ 6 18) HT_ ?_
            refine pu_ 6 (some 16) (bq_ 7 17) HT_ ?_
            refine pu_ 7 (some 17) (bq_ 8 16) HT_ ?_
            refine pu_ 8 (some 18) (bq_ 9 15) HT_ ?_
            refine pu_ 9 (some 19) (bq_ 10 14) HT_ ?_
            refine pu_ 10 (some 20) (bq_ 11 13) HT_ ?_
            refine pu_ 11 (some 21) (bq_ 12 12) HT_ ?_
            refine pu_ 12 (some 22) (bq_ 13 11) HT_ ?_
            refine pu_ 13 (some 23) (bq_ 14 10) HT_ ?_
            refine pu_ 14 (some 24) (bq_ 15 9) HT_ ?_
            refine pu_ 16 (some 26) #[true, true, true, true, true, true, true, true, true, true, true, true, true, true, true, false, true, false, false, false, false, false, false, false] HT_ ?_
            refine pu_ 17 (some 27) #[true, true, true, true, true, true, true, true, true, true, true, true, true, true, true, false, true, true, false, false, false, false, false, false] HT_ ?_
            refine pu_ 18 (some 28) #[true, true, true, true, true, true, true, true, true, true, true, true, true, true, true, false, true, true, true, false, false, false, false, false] HT_ ?_
            refine pu_ 19 (some 29) #[true, true, true, true, true, true, true, true, true, true, true, true, true, true, true, false, true, true, true, true, false, false, false, false] HT_ ?_
            refine take_ (i := 15) (N := some 25) (v := ?_) (a' := ?_) (bq_ 20 4) rfl rfl (take_ofW HT_.out HW_.out (by kernel_rfl)) (fun _ _ _ h => h) (Or.inl ⟨by rfl, ?_⟩) hHeld ?_ ?_
            rotate_left
            · rintro w' ⟨s0, s1, s2, s3, s4, s5, s6, s7, s8⟩
              go_simp
              with_reducible rfl
            rotate_left
            · simp only [Act.put, sa_, sz_, ss_, i64_w, i32_w]; rfl
            refine take_ (i := 20) (N := some 30) (v := ?_) (a' := ?_) (bq_ 21 3) rfl rfl (take_ofW HT_.out HW_.out (by kernel_rfl)) (fun _ _ _ h => h) (Or.inl ⟨by rfl, ?_⟩) hHeld ?_ ?_
            rotate_left
            · rintro w' ⟨s0, s1, s2, s3, s4, s5, s6, s7, s8⟩
              go_simp
              with_reducible rfl
            rotate_left
            · simp only [Act.put, sa_, sz_, ss_, i64_w, i32_w]; rfl
            refine pu_ 21 (some 31) (bq_ 22 2) HT_ ?_
            refine pu_ 22 (some 32) (bq_ 23 1) HT_ ?_
            refine pu_ 23 (some 33) (bq_ 24 0) HT_ ?_
            refine done_ (done_of HT_.out (by kernel_rfl)) ?_
            try go_wp2
            go_roundg k1
            case measure => have := HK1.out; omega
            case rel => exact ⟨(wrap64 (x3_1 + 1)), (by first | rfl | (simp; done) | (simp [*]; done)), H', ⟨by have := HK1.out; omega⟩, ⟨be_ HB.out⟩⟩
          · rw [if_neg c10] at H
            have c10b0 : (Op.bytesLess (((rd_T84 l0 (ji7)).f1).toList) (((rd_T84 l0 x3_1).f1).toList)) = false := by simpa using c10
            clear c10
            obtain rfl := Option.some.inj H
            try go_wp2
            have n0_ := Aside0.mk (below_drew1 HB.out)
            clear HB
            have HB := n0_
            clear n0_
            have p624 : 0 ≤ (x3_1 : Int) := of_decide_eq_true (by first | (with_reducible assumption) | assumption)
            have q624 : x3_1 < (l0.length : Int) := of_decide_eq_true (by first | (with_reducible assumption) | assumption)
            obtain ⟨ad624, e624, hx624_0, hx624_1, hx624_2⟩ := at_T84 HR0.out x3_1 p624 q624
            have hw624_2 := hx624_2
            have hw624_1 := hx624_1
            have hw624_0 := hx624_0
            cases e624
            replace hx624_0 := (HB.out.cell (World.block_lt_of_cell? w _ hx624_0)).trans hx624_0
            replace hx624_1 := (HB.out.cell (World.block_lt_of_cell? w _ hx624_1)).trans hx624_1
            replace hx624_2 := (HB.out.cell (World.block_lt_of_cell? w _ hx624_2)).trans hx624_2
            replace p624 := eq_true p624
            replace q624 := eq_true q624
            have p626 : 0 ≤ ((ji7) : Int) := of_decide_eq_true (by first | (with_reducible assumption) | assumption)
            have q626 : (ji7) < (l0.length : Int) := of_decide_eq_true (by first | (with_reducible assumption) | assumption)
            obtain ⟨ad626, e626, hx626_0, hx626_1, hx626_2⟩ := at_T84 HR0.out (ji7) p626 q626
            have hw626_2 := hx626_2
            have hw626_1 := hx626_1
            have hw626_0 := hx626_0
            obtain rfl : ad624 = ad626 := (by injection e626)
            replace hx626_0 := (HB.out.cell (World.block_lt_of_cell? w _ hx626_0)).trans hx626_0
            replace hx626_1 := (HB.out.cell (World.block_lt_of_cell? w _ hx626_1)).trans hx626_1
            replace hx626_2 := (HB.out.cell (World.block_lt_of_cell? w _ hx626_2)).trans hx626_2
            replace p626 := eq_true p626
            replace q626 := eq_true q626
            have p627 : 0 ≤ (x3_1 : Int) := of_decide_eq_true (by first | (with_reducible assumption) | assumption)
            have q627 : x3_1 < (l0.length : Int) := of_decide_eq_true (by first | (with_reducible assumption) | assumption)
            obtain ⟨ad627, e627, hx627_0, hx627_1, hx627_2⟩ := at_T84 HR0.out x3_1 p627 q627
            have hw627_2 := hx627_2
            have hw627_1 := hx627_1
            have hw627_0 := hx627_0
            obtain rfl : ad624 = ad627 := (by injection e627)
            replace hx627_0 := (HB.out.cell (World.block_lt_of_cell? w _ hx627_0)).trans hx627_0
            replace hx627_1 := (HB.out.cell (World.block_lt_of_cell? w _ hx627_1)).trans hx627_1
            replace hx627_2 := (HB.out.cell (World.block_lt_of_cell? w _ hx627_2)).trans hx627_2
            replace p627 := eq_true p627
            replace q627 := eq_true q627
            refine start_ (n := 24) (S := fun w' => w'.cell? (ad624.add ((x3_1).toNat * 3)) = some (.int .i64 ((rd_T84 l0 x3_1).f0)) ∧ w'.cell? ⟨(ad624.add ((x3_1).toNat * 3)).block, (ad624.add ((x3_1).toNat * 3)).off + 1, none⟩ = some (.string ((rd_T84 l0 x3_1).f1)) ∧ w'.cell? ⟨(ad624.add ((x3_1).toNat * 3)).block, (ad624.add ((x3_1).toNat * 3)).off + 2, none⟩ = some (.string ((rd_T84 l0 x3_1).f2)) ∧ w'.cell? (ad624.add (((ji7)).toNat * 3)) = some (.int .i64 ((rd_T84 l0 (ji7)).f0)) ∧ w'.cell? ⟨(ad624.add (((ji7)).toNat * 3)).block, (ad624.add (((ji7)).toNat * 3)).off + 1, none⟩ = some (.string ((rd_T84 l0 (ji7)).f1)) ∧ w'.cell? ⟨(ad624.add (((ji7)).toNat * 3)).block, (ad624.add (((ji7)).toNat * 3)).off + 2, none⟩ = some (.string ((rd_T84 l0 (ji7)).f2)) ∧ w'.cell? (ad624.add ((x3_1).toNat * 3)) = some (.int .i64 ((rd_T84 l0 x3_1).f0)) ∧ w'.cell? ⟨(ad624.add ((x3_1).toNat * 3)).block, (ad624.add ((x3_1).toNat * 3)).off + 1, none⟩ = some (.string ((rd_T84 l0 x3_1).f1)) ∧ w'.cell? ⟨(ad624.add ((x3_1).toNat * 3)).block, (ad624.add ((x3_1).toNat * 3)).off + 2, none⟩ = some (.string ((rd_T84 l0 x3_1).f2))) (ds := []) (bq_ 0 24) (by kernel_rfl) rfl rfl ⟨((HB.out.cell (World.block_lt_of_cell? w _ hw624_0)).trans hw624_0), ((HB.out.cell (World.block_lt_of_cell? w _ hw624_1)).trans hw624_1), ((HB.out.cell (World.block_lt_of_cell? w _ hw624_2)).trans hw624_2), ((HB.out.cell (World.block_lt_of_cell? w _ hw626_0)).trans hw626_0), ((HB.out.cell (World.block_lt_of_cell? w _ hw626_1)).trans hw626_1), ((HB.out.cell (World.block_lt_of_cell? w _ hw626_2)).trans hw626_2), ((HB.out.cell (World.block_lt_of_cell? w _ hw627_0)).trans hw627_0), ((HB.out.cell (World.block_lt_of_cell? w _ hw627_1)).trans hw627_1), ((HB.out.cell (World.block_lt_of_cell? w _ hw627_2)).trans hw627_2)⟩ (fun hHeld => ?_); refine with_tabW spec_OpsOk.tab4 spec_OpsOk.bits4 (fun HT_ HW_ => ?_)
            generalize wr.drew = w13 at HB hx624_0 hx624_1 hx624_2 hx626_0 hx626_1 hx626_2 hx627_0 hx627_1 hx627_2 hHeld ⊢
            refine pu_ 0 (some 10) (bq_ 1 23) HT_ ?_
            refine pu_ 1 (some 11) (bq_ 2 22) HT_ ?_
            refine pu_ 2 (some 12) (bq_ 3 21) HT_ ?_
            refine take_ (i := 3) (N := some 13) (v := ?_) (a' := ?_) (bq_ 4 20) rfl rfl (take_ofW HT_.out HW_.out (by kernel_rfl)) (fun _ _ _ h => h) (Or.inl ⟨by rfl, ?_⟩) hHeld ?_ ?_
            rotate_left
            · rintro w' ⟨s0, s1, s2, s3, s4, s5, s6, s7, s8⟩
              go_simp
              with_reducible rfl
            rotate_left
            · simp only [Act.put, sa_, sz_, ss_, i64_w, i32_w]; rfl
            refine on_ 4 (some 14) (bq_ 5 19) HT_ (fun K hK => ?_)
            refine goes_ Try.func85 (by kernel_rfl) rfl #[.agg #[.int .i64 ((rd_T84 l0 x3_1).f0), .string ((rd_T84 l0 x3_1).f1), .string ((rd_T84 l0 x3_1).f2)]] (by rfl) rfl rfl al_ ?_
            with_reducible refine (spec_l7Op.calls k1 ((rd_T84 l0 x3_1).f0) ((rd_T84 l0 x3_1).f1) ((rd_T84 l0 x3_1).f2) true _ A4.out).mono ?_
            rintro e w14 ⟨rfl, hb⟩
            refine ⟨_, rfl, ?_⟩
            have n0_ := Aside0.mk (below_step (be_ HB.out) hb)
            clear HB
            have HB := n0_
            clear n0_
            (try clear hb)
            (try clear hb2)
            (try clear hk)
            (try clear hi)
            refine hK.out _ _ ⟨((HB.out.cell (World.block_lt_of_cell? w _ hw624_0)).trans hw624_0), ((HB.out.cell (World.block_lt_of_cell? w _ hw624_1)).trans hw624_1), ((HB.out.cell (World.block_lt_of_cell? w _ hw624_2)).trans hw624_2), ((HB.out.cell (World.block_lt_of_cell? w _ hw626_0)).trans hw626_0), ((HB.out.cell (World.block_lt_of_cell? w _ hw626_1)).trans hw626_1), ((HB.out.cell (World.block_lt_of_cell? w _ hw626_2)).trans hw626_2), ((HB.out.cell (World.block_lt_of_cell? w _ hw627_0)).trans hw627_0), ((HB.out.cell (World.block_lt_of_cell? w _ hw627_1)).trans hw627_1), ((HB.out.cell (World.block_lt_of_cell? w _ hw627_2)).trans hw627_2)⟩ (fun hHeld => ?_)
            clear hK K
            refine nm_ ?_
            refine pu_ 5 (some 15) (bq_ 6 18) HT_ ?_
            refine pu_ 6 (some 16) (bq_ 7 17) HT_ ?_
            refine pu_ 7 (some 17) (bq_ 8 16) HT_ ?_
            refine pu_ 8 (some 18) (bq_ 9 15) HT_ ?_
            refine pu_ 9 (some 19) (bq_ 10 14) HT_ ?_
            refine pu_ 10 (some 20) (bq_ 11 13) HT_ ?_
            refine pu_ 11 (some 21) (bq_ 12 12) HT_ ?_
            refine pu_ 12 (some 22) (bq_ 13 11) HT_ ?_
            refine pu_ 13 (some 23) (bq_ 14 10) HT_ ?_
            refine pu_ 14 (some 24) (bq_ 15 9) HT_ ?_
            refine pu_ 16 (some 26) #[true, true, true, true, true, true, true, true, true, true, true, true, true, true, true, false, true, false, false, false, false, false, false, false] HT_ ?_
            refine pu_ 17 (some 27) #[true, true, true, true, true, true, true, true, true, true, true, true, true, true, true, false, true, true, false, false, false, false, false, false] HT_ ?_
            refine pu_ 18 (some 28) #[true, true, true, true, true, true, true, true, true, true, true, true, true, true, true, false, true, true, true, false, false, false, false, false] HT_ ?_
            refine pu_ 19 (some 29) #[true, true, true, true, true, true, true, true, true, true, true, true, true, true, true, false, true, true, true, true, false, false, false, false] HT_ ?_
            refine take_ (i := 15) (N := some 25) (v := ?_) (a' := ?_) (bq_ 20 4) rfl rfl (take_ofW HT_.out HW_.out (by kernel_rfl)) (fun _ _ _ h => h) (Or.inl ⟨by rfl, ?_⟩) hHeld ?_ ?_
            rotate_left
            · rintro w' ⟨s0, s1, s2, s3, s4, s5, s6, s7, s8⟩
              go_simp
              with_reducible rfl
            rotate_left
            · simp only [Act.put, sa_, sz_, ss_, i64_w, i32_w]; rfl
            refine take_ (i := 20) (N := some 30) (v := ?_) (a' := ?_) (bq_ 21 3) rfl rfl (take_ofW HT_.out HW_.out (by kernel_rfl)) (fun _ _ _ h => h) (Or.inl ⟨by rfl, ?_⟩) hHeld ?_ ?_
            rotate_left
            · rintro w' ⟨s0, s1, s2, s3, s4, s5, s6, s7, s8⟩
              go_simp
              with_reducible rfl
            rotate_left
            · simp only [Act.put, sa_, sz_, ss_, i64_w, i32_w]; rfl
            refine pu_ 21 (some 31) (bq_ 22 2) HT_ ?_
            refine pu_ 22 (some 32) (bq_ 23 1) HT_ ?_
            refine pu_ 23 (some 33) (bq_ 24 0) HT_ ?_
            refine done_ (done_of HT_.out (by kernel_rfl)) ?_
            try go_wp2
            go_ret
            exact ⟨by first | rfl | (simp [errW_none, errW_some] <;> rfl) | (simp only [← hji7]; first | rfl | (simp [errW_none, errW_some] <;> rfl)) | (simp [*, errW_none, errW_some] <;> rfl), be_ HB.out⟩
        · rw [if_neg c6] at H
          have c6b0 : decide (0 < x3_1) = false := decide_eq_false c6
          clear c6
          have H' := Aside0.mk H
          clear H
          try go_wp2
          have n0_ := Aside0.mk (below_drew1 HB.out)
          clear HB
          have HB := n0_
          clear n0_
          have p624 : 0 ≤ (x3_1 : Int) := of_decide_eq_true (by first | (with_reducible assumption) | assumption)
          have q624 : x3_1 < (l0.length : Int) := of_decide_eq_true (by first | (with_reducible assumption) | assumption)
          obtain ⟨ad624, e624, hx624_0, hx624_1, hx624_2⟩ := at_T84 HR0.out x3_1 p624 q624
          have hw624_2 := hx624_2
          have hw624_1 := hx624_1
          have hw624_0 := hx624_0
          cases e624
          replace hx624_0 := (HB.out.cell (World.block_lt_of_cell? w _ hx624_0)).trans hx624_0
          replace hx624_1 := (HB.out.cell (World.block_lt_of_cell? w _ hx624_1)).trans hx624_1
          replace hx624_2 := (HB.out.cell (World.block_lt_of_cell? w _ hx624_2)).trans hx624_2
          replace p624 := eq_true p624
          replace q624 := eq_true q624
          refine start_ (n := 24) (S := fun w' => w'.cell? (ad624.add ((x3_1).toNat * 3)) = some (.int .i64 ((rd_T84 l0 x3_1).f0)) ∧ w'.cell? ⟨(ad624.add ((x3_1).toNat * 3)).block, (ad624.add ((x3_1).toNat * 3)).off + 1, none⟩ = some (.string ((rd_T84 l0 x3_1).f1)) ∧ w'.cell? ⟨(ad624.add ((x3_1).toNat * 3)).block, (ad624.add ((x3_1).toNat * 3)).off + 2, none⟩ = some (.string ((rd_T84 l0 x3_1).f2))) (ds := []) (bq_ 0 24) (by kernel_rfl) rfl rfl ⟨((HB.out.cell (World.block_lt_of_cell? w _ hw624_0)).trans hw624_0), ((HB.out.cell (World.block_lt_of_cell? w _ hw624_1)).trans hw624_1), ((HB.out.cell (World.block_lt_of_cell? w _ hw624_2)).trans hw624_2)⟩ (fun hHeld => ?_); refine with_tabW spec_OpsOk.tab4 spec_OpsOk.bits4 (fun HT_ HW_ => ?_)
          generalize wr.drew = w15 at HB hx624_0 hx624_1 hx624_2 hHeld ⊢
          refine pu_ 0 (some 10) (bq_ 1 23) HT_ ?_
          refine pu_ 1 (some 11) (bq_ 2 22) HT_ ?_
          refine pu_ 2 (some 12) (bq_ 3 21) HT_ ?_
          refine take_ (i := 3) (N := some 13) (v := ?_) (a' := ?_) (bq_ 4 20) rfl rfl (take_ofW HT_.out HW_.out (by kernel_rfl)) (fun _ _ _ h => h) (Or.inl ⟨by rfl, ?_⟩) hHeld ?_ ?_
          rotate_left
          · rintro w' ⟨s0, s1, s2⟩
            go_simp
            with_reducible rfl
          rotate_left
          · simp only [Act.put, sa_, sz_, ss_, i64_w, i32_w]; rfl
          refine on_ 4 (some 14) (bq_ 5 19) HT_ (fun K hK => ?_)
          refine goes_ Try.func85 (by kernel_rfl) rfl #[.agg #[.int .i64 ((rd_T84 l0 x3_1).f0), .string ((rd_T84 l0 x3_1).f1), .string ((rd_T84 l0 x3_1).f2)]] (by rfl) rfl rfl al_ ?_
          with_reducible refine (spec_l7Op.calls k1 ((rd_T84 l0 x3_1).f0) ((rd_T84 l0 x3_1).f1) ((rd_T84 l0 x3_1).f2) true _ A4.out).mono ?_
          rintro e w16 ⟨rfl, hb⟩
          refine ⟨_, rfl, ?_⟩
          have n0_ := Aside0.mk (below_step (be_ HB.out) hb)
          clear HB
          have HB := n0_
          clear n0_
          (try clear hb)
          (try clear hb2)
          (try clear hk)
          (try clear hi)
          refine hK.out _ _ ⟨((HB.out.cell (World.block_lt_of_cell? w _ hw624_0)).trans hw624_0), ((HB.out.cell (World.block_lt_of_cell? w _ hw624_1)).trans hw624_1), ((HB.out.cell (World.block_lt_of_cell? w _ hw624_2)).trans hw624_2)⟩ (fun hHeld => ?_)
          clear hK K
          refine nm_ ?_
          refine pu_ 5 (some 15) (bq_ 6 18) HT_ ?_
          refine pu_ 6 (some 16) (bq_ 7 17) HT_ ?_
          refine pu_ 7 (some 17) (bq_ 8 16) HT_ ?_
          refine pu_ 8 (some 18) (bq_ 9 15) HT_ ?_
          refine pu_ 9 (some 19) (bq_ 10 14) HT_ ?_
          refine pure_ (i := 10) (N := some 20) (v := undef) (a' := ?_) (bq_ 11 13) rfl rfl (any_of HT_.out (by kernel_rfl)) (fun _ _ _ h => h) (Or.inr ⟨by rfl, rfl⟩) ?_ ?_
          rotate_left
          · simp only [Act.put, sa_, sz_, ss_, i64_w, i32_w]; rfl
          refine pure_ (i := 11) (N := some 21) (v := undef) (a' := ?_) (bq_ 12 12) rfl rfl (any_of HT_.out (by kernel_rfl)) (fun _ _ _ h => h) (Or.inr ⟨by rfl, rfl⟩) ?_ ?_
          rotate_left
          · simp only [Act.put, sa_, sz_, ss_, i64_w, i32_w]; rfl
          refine pure_ (i := 12) (N := some 22) (v := undef) (a' := ?_) (bq_ 13 11) rfl rfl (any_of HT_.out (by kernel_rfl)) (fun _ _ _ h => h) (Or.inr ⟨by rfl, rfl⟩) ?_ ?_
          rotate_left
          · simp only [Act.put, sa_, sz_, ss_, i64_w, i32_w]; rfl
          refine pure_ (i := 13) (N := some 23) (v := undef) (a' := ?_) (bq_ 14 10) rfl rfl (any_of HT_.out (by kernel_rfl)) (fun _ _ _ h => h) (Or.inr ⟨by rfl, rfl⟩) ?_ ?_
          rotate_left
          · simp only [Act.put, sa_, sz_, ss_, i64_w, i32_w]; rfl
          refine pure_ (i := 14) (N := some 24) (v := undef) (a' := ?_) (bq_ 15 9) rfl rfl (any_of HT_.out (by kernel_rfl)) (fun _ _ _ h => h) (Or.inr ⟨by rfl, rfl⟩) ?_ ?_
          rotate_left
          · simp only [Act.put, sa_, sz_, ss_, i64_w, i32_w]; rfl
          refine pure_ (i := 15) (N := some 25) (v := undef) (a' := ?_) (bq_ 16 8) rfl rfl (any_of HT_.out (by kernel_rfl)) (fun _ _ _ h => h) (Or.inr ⟨by rfl, rfl⟩) ?_ ?_
          rotate_left
          · simp only [Act.put, sa_, sz_, ss_, i64_w, i32_w]; rfl
          refine pure_ (i := 16) (N := some 26) (v := undef) (a' := ?_) (bq_ 17 7) rfl rfl (any_of HT_.out (by kernel_rfl)) (fun _ _ _ h => h) (Or.inr ⟨by rfl, rfl⟩) ?_ ?_
          rotate_left
          · simp only [Act.put, sa_, sz_, ss_, i64_w, i32_w]; rfl
          refine pure_ (i := 17) (N := some 27) (v := undef) (a' := ?_) (bq_ 18 6) rfl rfl (any_of HT_.out (by kernel_rfl)) (fun _ _ _ h => h) (Or.inr ⟨by rfl, rfl⟩) ?_ ?_
          rotate_left
          · simp only [Act.put, sa_, sz_, ss_, i64_w, i32_w]; rfl
          refine pure_ (i := 18) (N := some 28) (v := undef) (a' := ?_) (bq_ 19 5) rfl rfl (any_of HT_.out (by kernel_rfl)) (fun _ _ _ h => h) (Or.inr ⟨by rfl, rfl⟩) ?_ ?_
          rotate_left
          · simp only [Act.put, sa_, sz_, ss_, i64_w, i32_w]; rfl
          refine pure_ (i := 19) (N := some 29) (v := undef) (a' := ?_) (bq_ 20 4) rfl rfl (any_of HT_.out (by kernel_rfl)) (fun _ _ _ h => h) (Or.inr ⟨by rfl, rfl⟩) ?_ ?_
          rotate_left
          · simp only [Act.put, sa_, sz_, ss_, i64_w, i32_w]; rfl
          refine pure_ (i := 20) (N := some 30) (v := undef) (a' := ?_) (bq_ 21 3) rfl rfl (any_of HT_.out (by kernel_rfl)) (fun _ _ _ h => h) (Or.inr ⟨by rfl, rfl⟩) ?_ ?_
          rotate_left
          · simp only [Act.put, sa_, sz_, ss_, i64_w, i32_w]; rfl
          refine pure_ (i := 21) (N := some 31) (v := undef) (a' := ?_) (bq_ 22 2) rfl rfl (any_of HT_.out (by kernel_rfl)) (fun _ _ _ h => h) (Or.inr ⟨by rfl, rfl⟩) ?_ ?_
          rotate_left
          · simp only [Act.put, sa_, sz_, ss_, i64_w, i32_w]; rfl
          refine pu_ 22 (some 32) (bq_ 23 1) HT_ ?_
          refine pu_ 23 (some 33) (bq_ 24 0) HT_ ?_
          refine done_ (done_of HT_.out (by kernel_rfl)) ?_
          try go_wp2
          go_roundg k1
          case measure => have := HK1.out; omega
          case rel => exact ⟨(wrap64 (x3_1 + 1)), (by first | rfl | (simp; done) | (simp [*]; done)), H', ⟨by have := HK1.out; omega⟩, ⟨be_ HB.out⟩⟩
      · replace c5 := Bool.eq_false_iff.mpr c5
        subst c5
        have H1 : (some false) = some r := by rw [if_neg (show ¬ (false = true) by decide)] at H; exact H
        clear H
        have H := H1
        clear H1
        obtain rfl := Option.some.inj H
        try go_wp2
        have n0_ := Aside0.mk (below_drew1 HB.out)
        clear HB
        have HB := n0_
        clear n0_
        have p624 : 0 ≤ (x3_1 : Int) := of_decide_eq_true (by first | (with_reducible assumption) | assumption)
        have q624 : x3_1 < (l0.length : Int) := of_decide_eq_true (by first | (with_reducible assumption) | assumption)
        obtain ⟨ad624, e624, hx624_0, hx624_1, hx624_2⟩ := at_T84 HR0.out x3_1 p624 q624
        have hw624_2 := hx624_2
        have hw624_1 := hx624_1
        have hw624_0 := hx624_0
        cases e624
        replace hx624_0 := (HB.out.cell (World.block_lt_of_cell? w _ hx624_0)).trans hx624_0
        replace hx624_1 := (HB.out.cell (World.block_lt_of_cell? w _ hx624_1)).trans hx624_1
        replace hx624_2 := (HB.out.cell (World.block_lt_of_cell? w _ hx624_2)).trans hx624_2
        replace p624 := eq_true p624
        replace q624 := eq_true q624
        refine start_ (n := 24) (S := fun w' => w'.cell? (ad624.add ((x3_1).toNat * 3)) = some (.int .i64 ((rd_T84 l0 x3_1).f0)) ∧ w'.cell? ⟨(ad624.add ((x3_1).toNat * 3)).block, (ad624.add ((x3_1).toNat * 3)).off + 1, none⟩ = some (.string ((rd_T84 l0 x3_1).f1)) ∧ w'.cell? ⟨(ad624.add ((x3_1).toNat * 3)).block, (ad624.add ((x3_1).toNat * 3)).off + 2, none⟩ = some (.string ((rd_T84 l0 x3_1).f2))) (ds := []) (bq_ 0 24) (by kernel_rfl) rfl rfl ⟨((HB.out.cell (World.block_lt_of_cell? w _ hw624_0)).trans hw624_0), ((HB.out.cell (World.block_lt_of_cell? w _ hw624_1)).trans hw624_1), ((HB.out.cell (World.block_lt_of_cell? w _ hw624_2)).trans hw624_2)⟩ (fun hHeld => ?_); refine with_tabW spec_OpsOk.tab4 spec_OpsOk.bits4 (fun HT_ HW_ => ?_)
        generalize wr.drew = w17 at HB hx624_0 hx624_1 hx624_2 hHeld ⊢
        refine pu_ 0 (some 10) (bq_ 1 23) HT_ ?_
        refine pu_ 1 (some 11) (bq_ 2 22) HT_ ?_
        refine pu_ 2 (some 12) (bq_ 3 21) HT_ ?_
        refine take_ (i := 3) (N := some 13) (v := ?_) (a' := ?_) (bq_ 4 20) rfl rfl (take_ofW HT_.out HW_.out (by kernel_rfl)) (fun _ _ _ h => h) (Or.inl ⟨by rfl, ?_⟩) hHeld ?_ ?_
        rotate_left
        · rintro w' ⟨s0, s1, s2⟩
          go_simp
          with_reducible rfl
        rotate_left
        · simp only [Act.put, sa_, sz_, ss_, i64_w, i32_w]; rfl
        refine on_ 4 (some 14) (bq_ 5 19) HT_ (fun K hK => ?_)
        refine goes_ Try.func85 (by kernel_rfl) rfl #[.agg #[.int .i64 ((rd_T84 l0 x3_1).f0), .string ((rd_T84 l0 x3_1).f1), .string ((rd_T84 l0 x3_1).f2)]] (by rfl) rfl rfl al_ ?_
        with_reducible refine (spec_l7Op.calls k1 ((rd_T84 l0 x3_1).f0) ((rd_T84 l0 x3_1).f1) ((rd_T84 l0 x3_1).f2) false _ A4.out).mono ?_
        rintro e w18 ⟨rfl, hb⟩
        refine ⟨_, rfl, ?_⟩
        have n0_ := Aside0.mk (below_step (be_ HB.out) hb)
        clear HB
        have HB := n0_
        clear n0_
        (try clear hb)
        (try clear hb2)
        (try clear hk)
        (try clear hi)
        refine hK.out _ _ ⟨((HB.out.cell (World.block_lt_of_cell? w _ hw624_0)).trans hw624_0), ((HB.out.cell (World.block_lt_of_cell? w _ hw624_1)).trans hw624_1), ((HB.out.cell (World.block_lt_of_cell? w _ hw624_2)).trans hw624_2)⟩ (fun hHeld => ?_)
        clear hK K
        refine nm_ ?_
        refine pu_ 5 (some 15) (bq_ 6 18) HT_ ?_
        refine pu_ 6 (some 16) (bq_ 7 17) HT_ ?_
        refine pure_ (i := 7) (N := some 17) (v := undef) (a' := ?_) (bq_ 8 16) rfl rfl (any_of HT_.out (by kernel_rfl)) (fun _ _ _ h => h) (Or.inr ⟨by rfl, rfl⟩) ?_ ?_
        rotate_left
        · simp only [Act.put, sa_, sz_, ss_, i64_w, i32_w]; rfl
        refine pure_ (i := 8) (N := some 18) (v := undef) (a' := ?_) (bq_ 9 15) rfl rfl (any_of HT_.out (by kernel_rfl)) (fun _ _ _ h => h) (Or.inr ⟨by rfl, rfl⟩) ?_ ?_
        rotate_left
        · simp only [Act.put, sa_, sz_, ss_, i64_w, i32_w]; rfl
        refine pure_ (i := 9) (N := some 19) (v := undef) (a' := ?_) (bq_ 10 14) rfl rfl (any_of HT_.out (by kernel_rfl)) (fun _ _ _ h => h) (Or.inr ⟨by rfl, rfl⟩) ?_ ?_
        rotate_left
        · simp only [Act.put, sa_, sz_, ss_, i64_w, i32_w]; rfl
        refine pure_ (i := 10) (N := some 20) (v := undef) (a' := ?_) (bq_ 11 13) rfl rfl (any_of HT_.out (by kernel_rfl)) (fun _ _ _ h => h) (Or.inr ⟨by rfl, rfl⟩) ?_ ?_
        rotate_left
        · simp only [Act.put, sa_, sz_, ss_, i64_w, i32_w]; rfl
        refine pure_ (i := 11) (N := some 21) (v := undef) (a' := ?_) (bq_ 12 12) rfl rfl (any_of HT_.out (by kernel_rfl)) (fun _ _ _ h => h) (Or.inr ⟨by rfl, rfl⟩) ?_ ?_
        rotate_left
        · simp only [Act.put, sa_, sz_, ss_, i64_w, i32_w]; rfl
        refine pure_ (i := 12) (N := some 22) (v := undef) (a' := ?_) (bq_ 13 11) rfl rfl (any_of HT_.out (by kernel_rfl)) (fun _ _ _ h => h) (Or.inr ⟨by rfl, rfl⟩) ?_ ?_
        rotate_left
        · simp only [Act.put, sa_, sz_, ss_, i64_w, i32_w]; rfl
        refine pure_ (i := 13) (N := some 23) (v := undef) (a' := ?_) (bq_ 14 10) rfl rfl (any_of HT_.out (by kernel_rfl)) (fun _ _ _ h => h) (Or.inr ⟨by rfl, rfl⟩) ?_ ?_
        rotate_left
        · simp only [Act.put, sa_, sz_, ss_, i64_w, i32_w]; rfl
        refine pure_ (i := 14) (N := some 24) (v := undef) (a' := ?_) (bq_ 15 9) rfl rfl (any_of HT_.out (by kernel_rfl)) (fun _ _ _ h => h) (Or.inr ⟨by rfl, rfl⟩) ?_ ?_
        rotate_left
        · simp only [Act.put, sa_, sz_, ss_, i64_w, i32_w]; rfl
        refine pure_ (i := 15) (N := some 25) (v := undef) (a' := ?_) (bq_ 16 8) rfl rfl (any_of HT_.out (by kernel_rfl)) (fun _ _ _ h => h) (Or.inr ⟨by rfl, rfl⟩) ?_ ?_
        rotate_left
        · simp only [Act.put, sa_, sz_, ss_, i64_w, i32_w]; rfl
        refine pure_ (i := 16) (N := some 26) (v := undef) (a' := ?_) (bq_ 17 7) rfl rfl (any_of HT_.out (by kernel_rfl)) (fun _ _ _ h => h) (Or.inr ⟨by rfl, rfl⟩) ?_ ?_
        rotate_left
        · simp only [Act.put, sa_, sz_, ss_, i64_w, i32_w]; rfl
        refine pure_ (i := 17) (N := some 27) (v := undef) (a' := ?_) (bq_ 18 6) rfl rfl (any_of HT_.out (by kernel_rfl)) (fun _ _ _ h => h) (Or.inr ⟨by rfl, rfl⟩) ?_ ?_
        rotate_left
        · simp only [Act.put, sa_, sz_, ss_, i64_w, i32_w]; rfl
        refine pure_ (i := 18) (N := some 28) (v := undef) (a' := ?_) (bq_ 19 5) rfl rfl (any_of HT_.out (by kernel_rfl)) (fun _ _ _ h => h) (Or.inr ⟨by rfl, rfl⟩) ?_ ?_
        rotate_left
        · simp only [Act.put, sa_, sz_, ss_, i64_w, i32_w]; rfl
        refine pure_ (i := 19) (N := some 29) (v := undef) (a' := ?_) (bq_ 20 4) rfl rfl (any_of HT_.out (by kernel_rfl)) (fun _ _ _ h => h) (Or.inr ⟨by rfl, rfl⟩) ?_ ?_
        rotate_left
        · simp only [Act.put, sa_, sz_, ss_, i64_w, i32_w]; rfl
        refine pure_ (i := 20) (N := some 30) (v := undef) (a' := ?_) (bq_ 21 3) rfl rfl (any_of HT_.out (by kernel_rfl)) (fun _ _ _ h => h) (Or.inr ⟨by rfl, rfl⟩) ?_ ?_
        rotate_left
        · simp only [Act.put, sa_, sz_, ss_, i64_w, i32_w]; rfl
        refine pure_ (i := 21) (N := some 31) (v := undef) (a' := ?_) (bq_ 22 2) rfl rfl (any_of HT_.out (by kernel_rfl)) (fun _ _ _ h => h) (Or.inr ⟨by rfl, rfl⟩) ?_ ?_
        rotate_left
        · simp only [Act.put, sa_, sz_, ss_, i64_w, i32_w]; rfl
        refine pure_ (i := 22) (N := some 32) (v := undef) (a' := ?_) (bq_ 23 1) rfl rfl (any_of HT_.out (by kernel_rfl)) (fun _ _ _ h => h) (Or.inr ⟨by rfl, rfl⟩) ?_ ?_
        rotate_left
        · simp only [Act.put, sa_, sz_, ss_, i64_w, i32_w]; rfl
        refine pu_ 23 (some 33) (bq_ 24 0) HT_ ?_
        refine done_ (done_of HT_.out (by kernel_rfl)) ?_
        try go_wp2
        go_ret
        exact ⟨by first | rfl | (simp [errW_none, errW_some] <;> rfl) | (simp [*, errW_none, errW_some] <;> rfl), be_ HB.out⟩
    · rw [if_neg c2] at H
      have c2b0 : decide (x3_1 < (l0.length : Int)) = false := decide_eq_false c2
      clear c2
      replace H := Option.bind_eq_some_iff.mp H
      obtain ⟨t628, A190, H⟩ := H
      have A19 := Aside0.mk A190
      clear A190
      obtain rfl := Option.some.inj H
      go_wp2_with (first | ((with_reducible refine gate_callee (f := 72) rfl ?_); refine goesL_ (some 36) rfl rfl Try.func72 (by kernel_rfl) rfl #[.int .i64 (l0.length : Int), .int .i64 1, .int .i64 8] rfl al_ ?_; (with_reducible refine (spec_l1In.calls (l0.length : Int) 1 8 t628 _ A19.out).mono ?_); rintro e w' ⟨rfl, ⟨nd, rfl⟩⟩; refine ⟨_, rfl, ?_⟩))
      go_ret
      exact ⟨by first | rfl | (simp [errW_none, errW_some] <;> rfl) | (simp [*, errW_none, errW_some] <;> rfl), be_ HB.out⟩

end Go.Proofs.Ytamkjoflkkffhaa.P
