-- Written by wip/xp/xp.py over the kit's print; Lean checks it.
import Derived.Test.YtamkjoflkkffhaaStr
import Derived.Test.YtamkjoflkkffhaaPx0
import Derived.Test.YtamkjoflkkffhaaPx8
import Derived.Test.YtamkjoflkkffhaaPx10
namespace Go.Proofs.Ytamkjoflkkffhaa.P
open Go.RowKit Go.Proofs.YtamkjoflkkffhaaW.PrintWords Go.Proofs.YtamkjoflkkffhaaW.PrintLast Go.Proofs.YtamkjoflkkffhaaW.PrintMore
attribute [local go_sem] max2_int min2_int max_two min_two max_three min_three max_four min_four   -- for this text's walks alone
set_option linter.unusedVariables false
set_option linter.unusedSimpArgs false

/-! ###  impl_OpsOk: function 66 -/
def impl_OpsOk.l0 : Nat → List (S84) → List (S84) → Int → Int → Option (Bool)
  | 0, _, _, _, _ => none
  | k + 1, x0, x5, x6, x7 => if x7 < x6 then (if 0 ≤ x7 then (if x7 < (x5.length : Int) then ((impl_opOk.f k ((rd_T84 x5 x7).f0) ((rd_T84 x5 x7).f1) ((rd_T84 x5 x7).f2)).bind fun t670 => (if t670 = true then (if x7 > 0 then (if 0 ≤ (wrap64 (x7 - 1)) then (if (wrap64 (x7 - 1)) < (x0.length : Int) then (if ((Op.bytesLess (((rd_T84 x0 (wrap64 (x7 - 1))).f1).toList) (((rd_T84 x5 x7).f1).toList)) = true) then (impl_OpsOk.l0 k x0 x5 x6 (wrap64 (x7 + 1))) else (some false)) else (none)) else (none)) else (impl_OpsOk.l0 k x0 x5 x6 (wrap64 (x7 + 1)))) else (some false))) else (none)) else (none)) else ((impl_inRange.f (x0.length : Int) 1 8).bind fun t672 => (some t672))
def impl_OpsOk.f (k : Nat) (l0 : List (S84)) : Option (Bool) := impl_OpsOk.l0 k l0 l0 (l0.length : Int) 0
def impl_OpsOk.T4 : Bool × List (List Nat × List Nat) := (true, [([], []), ([0], [0]), ([1], [1]), ([2, 1], [2]), ([3], [3]), ([4, 3], [3, 4]), ([5, 3, 3], [3, 5]), ([6], [6]), ([7, 6], [6, 7]), ([6], [6]), ([6], [6]), ([10, 6], [6, 10]), ([9, 11, 6], [6, 9, 11]), ([12, 6], [6, 12]), ([13, 6], [6, 13]), ([8, 14, 6], [6, 8, 14]), ([6, 15, 3], [3, 6, 15]), ([3, 16], [3, 16])])
def impl_OpsOk.B4 : List Nat := [0, 1, 3, 7, 15, 31, 63, 127, 255, 127, 127, 1151, 3711, 7807, 15999, 32767, 65535, 131071]
theorem impl_OpsOk.tab4 : rtab .any (opsOf Try.f66 4) = impl_OpsOk.T4 := by kernel_rfl
theorem impl_OpsOk.bits4 : waitsOk impl_OpsOk.T4.2 impl_OpsOk.B4 = true := by kernel_rfl
set_option maxHeartbeats 8000000 in
set_option maxRecDepth 100000 in
theorem impl_OpsOk.calls (k : Nat) (A0 : Option Addr) (c0 : Nat) (l0 : List (S84)) (r : Bool) (w : World) (hr0 : Kd.C k84 w A0 l0.length l0) (hc0 : l0.length ≤ c0) (h : impl_OpsOk.f k l0 = some r) :
  Calls Try.prog 66 #[.slice A0 l0.length c0] w fun e w' => e = .returned (.bool r) ∧ Below w.heap.size w w' := by
  have hu84 := Try.underlying84
  have HR0 := Aside0.mk hr0
  have HC0 := Aside0.mk hc0
  clear hr0 hc0
  have HB := Aside0.mk (Below.refl w.heap.size w)
  have H : (impl_OpsOk.l0 k l0 l0 (l0.length : Int) 0) = some r := h
  clear h
  have H' := Aside0.mk H
  clear H
  go_enter Try.func66, Try.ntmps66
  go_wp2
  go_loopg [7] k (fun kq v7 w' => ∃ (x7_1 : Int), v7 = .int .i64 x7_1 ∧ Aside0 (impl_OpsOk.l0 kq l0 l0 (l0.length : Int) x7_1 = some r) ∧ Aside0 (kq ≤ k) ∧ Aside0 (Below w.heap.size w w'))
  case atStart => exact ⟨(0), (by first | rfl | (simp; done) | (simp [*]; done)), H', ⟨Nat.le_refl _⟩, ⟨be_ HB.out⟩⟩
  case round =>
   clear H'
   obtain ⟨x7_1, rfl, HA, HK1, HB⟩ := hrel
   cases gk with
   | zero => exact absurd HA.out (by simp [impl_OpsOk.l0])
   | succ k1 =>
    have H := HA.out
    clear HA
    simp only [impl_OpsOk.l0] at H
    by_cases c2 : x7_1 < (l0.length : Int)
    · rw [if_pos c2] at H
      have c2b0 : decide (x7_1 < (l0.length : Int)) = true := decide_eq_true c2
      clear c2
      by_cases c3 : 0 ≤ x7_1
      rotate_left
      · rw [if_neg c3] at H; exact absurd H (by simp)
      rw [if_pos c3] at H
      have c3b0 : decide (0 ≤ x7_1) = true := decide_eq_true c3
      clear c3
      by_cases c4 : x7_1 < (l0.length : Int)
      rotate_left
      · rw [if_neg c4] at H; exact absurd H (by simp)
      rw [if_pos c4] at H
      have c4b0 : decide (x7_1 < (l0.length : Int)) = true := decide_eq_true c4
      clear c4
      replace H := Option.bind_eq_some_iff.mp H
      obtain ⟨t670, A50, H⟩ := H
      have A5 := Aside0.mk A50
      clear A50
      by_cases c6 : t670 = true
      · subst c6
        have H1 : (if x7_1 > 0 then (if 0 ≤ (wrap64 (x7_1 - 1)) then (if (wrap64 (x7_1 - 1)) < (l0.length : Int) then (if ((Op.bytesLess (((rd_T84 l0 (wrap64 (x7_1 - 1))).f1).toList) (((rd_T84 l0 x7_1).f1).toList)) = true) then (impl_OpsOk.l0 k1 l0 l0 (l0.length : Int) (wrap64 (x7_1 + 1))) else (some false)) else (none)) else (none)) else (impl_OpsOk.l0 k1 l0 l0 (l0.length : Int) (wrap64 (x7_1 + 1)))) = some r := by rw [if_pos rfl] at H; exact H
        clear H
        have H := H1
        clear H1
        by_cases c7 : x7_1 > 0
        · rw [if_pos c7] at H
          have c7b0 : decide (0 < x7_1) = true := decide_eq_true c7
          clear c7
          obtain ⟨ji8, hji8⟩ : ∃ j_ : Int, (wrap64 (x7_1 - 1)) = j_ := ⟨_, rfl⟩
          replace H : (if 0 ≤ (ji8) then (if (ji8) < (l0.length : Int) then (if ((Op.bytesLess (((rd_T84 l0 (ji8)).f1).toList) (((rd_T84 l0 x7_1).f1).toList)) = true) then (impl_OpsOk.l0 k1 l0 l0 (l0.length : Int) (wrap64 (x7_1 + 1))) else (some false)) else (none)) else (none)) = some r := by first | (rw [hji8] at H; exact H) | (simp only [hji8] at H ⊢; exact H)
          (try rw [hji8] at A5)
          have hji8w : (IntKind.i64.wrap (x7_1 - 1)) = ji8 := (i64_w _).trans hji8
          by_cases c9 : 0 ≤ (ji8)
          rotate_left
          · rw [if_neg c9] at H; exact absurd H (by simp)
          rw [if_pos c9] at H
          have c9b0 : decide (0 ≤ (ji8)) = true := decide_eq_true c9
          clear c9
          by_cases c10 : (ji8) < (l0.length : Int)
          rotate_left
          · rw [if_neg c10] at H; exact absurd H (by simp)
          rw [if_pos c10] at H
          have c10b0 : decide ((ji8) < (l0.length : Int)) = true := decide_eq_true c10
          clear c10
          by_cases c11 : ((Op.bytesLess (((rd_T84 l0 (ji8)).f1).toList) (((rd_T84 l0 x7_1).f1).toList)) = true)
          · rw [if_pos c11] at H
            have c11b0 : (Op.bytesLess (((rd_T84 l0 (ji8)).f1).toList) (((rd_T84 l0 x7_1).f1).toList)) = true := c11
            clear c11
            have H' := Aside0.mk H
            clear H
            have p668 : 0 ≤ (x7_1 : Int) := of_decide_eq_true (by first | (with_reducible assumption) | assumption)
            have q668 : x7_1 < (l0.length : Int) := of_decide_eq_true (by first | (with_reducible assumption) | assumption)
            obtain ⟨ad668, e668, hx668_0, hx668_1, hx668_2⟩ := at_T84 HR0.out x7_1 p668 q668
            cases e668
            replace hx668_0 := (HB.out.cell (World.block_lt_of_cell? w _ hx668_0)).trans hx668_0
            replace hx668_1 := (HB.out.cell (World.block_lt_of_cell? w _ hx668_1)).trans hx668_1
            replace hx668_2 := (HB.out.cell (World.block_lt_of_cell? w _ hx668_2)).trans hx668_2
            replace p668 := eq_true p668
            replace q668 := eq_true q668
            try go_wp2_with (first | ((with_reducible refine gate_dst (N := 4) rfl ?_); refine box_event ?hg (N := 4) ?hd (cs := #[.int .i64 0, .string (⟨#[]⟩ : ByteArray), .string (⟨#[]⟩ : ByteArray)]) (t := 84) ?hr ?_; (case hd => rfl); (case hg => rfl); (case hr => first | (go_simp; done) | (go_simp; rfl)); intro gb669 hg w12 hbox hb; have n0_ := Aside0.mk (below_step (be_ HB.out) hb); have n1_ := Aside0.mk (hbox); have n2_ := Aside0.mk ((by rw [hg]; exact (below_size (be_ HB.out)) : w.heap.size ≤ gb669)); have n3_ := Aside0.mk ((by rw [hg]; exact (below_size (be_ HB.out)) : w.heap.size ≤ gb669)); clear HB; have HB := n0_; have BK669 := n1_; have GW669 := n2_; have GE669 := n3_; clear n0_ n1_ n2_ n3_; clear hb hbox hg; have hcz13_0 : w12.cell? ⟨gb669, 0, none⟩ = some (.int .i64 0) := (blk_cell BK669.out 0).trans rfl; have hcz13_1 : w12.cell? ⟨gb669, 1, none⟩ = some (.string (⟨#[]⟩ : ByteArray)) := (blk_cell BK669.out 1).trans rfl; have hcz13_2 : w12.cell? ⟨gb669, 2, none⟩ = some (.string (⟨#[]⟩ : ByteArray)) := (blk_cell BK669.out 2).trans rfl; have hfz13_0 := blk_frozen BK669.out 0; have hfz13_1 := blk_frozen BK669.out 1; have hfz13_2 := blk_frozen BK669.out 2))
            have n0_ : Aside0 ((((w12.setCell ⟨gb669, 0, none⟩ (.int .i64 ((rd_T84 l0 x7_1).f0))).setCell ⟨gb669, 1, none⟩ (.string ((rd_T84 l0 x7_1).f1))).setCell ⟨gb669, 2, none⟩ (.string ((rd_T84 l0 x7_1).f2))).heap[gb669]? = some (.cells #[.int .i64 ((rd_T84 l0 x7_1).f0), .string ((rd_T84 l0 x7_1).f1), .string ((rd_T84 l0 x7_1).f2)] 84 (0, 0))) := ⟨by (with_reducible repeat (first | refine blk_drewN ?_ _ | refine blk_drew ?_ | refine blk_alloc ?_ _)); refine blk_put (cs := #[.int .i64 ((rd_T84 l0 x7_1).f0), .string ((rd_T84 l0 x7_1).f1), .string (⟨#[]⟩ : ByteArray)]) ?_ 2 _ rfl; (with_reducible repeat (first | refine blk_drewN ?_ _ | refine blk_drew ?_ | refine blk_alloc ?_ _)); refine blk_put (cs := #[.int .i64 ((rd_T84 l0 x7_1).f0), .string (⟨#[]⟩ : ByteArray), .string (⟨#[]⟩ : ByteArray)]) ?_ 1 _ rfl; (with_reducible repeat (first | refine blk_drewN ?_ _ | refine blk_drew ?_ | refine blk_alloc ?_ _)); refine blk_put (cs := #[.int .i64 0, .string (⟨#[]⟩ : ByteArray), .string (⟨#[]⟩ : ByteArray)]) ?_ 0 _ rfl; (with_reducible repeat (first | refine blk_drewN ?_ _ | refine blk_drew ?_ | refine blk_alloc ?_ _)); exact BK669.out⟩
            have n1_ : Aside0 (Below w.heap.size w (((w12.setCell ⟨gb669, 0, none⟩ (.int .i64 ((rd_T84 l0 x7_1).f0))).setCell ⟨gb669, 1, none⟩ (.string ((rd_T84 l0 x7_1).f1))).setCell ⟨gb669, 2, none⟩ (.string ((rd_T84 l0 x7_1).f2)))) := ⟨bs_ HB.out GE669.out⟩
            (try clear BK669)
            (try clear HB)
            generalize (((w12.setCell ⟨gb669, 0, none⟩ (.int .i64 ((rd_T84 l0 x7_1).f0))).setCell ⟨gb669, 1, none⟩ (.string ((rd_T84 l0 x7_1).f1))).setCell ⟨gb669, 2, none⟩ (.string ((rd_T84 l0 x7_1).f2))) = w14 at n0_ n1_ ⊢
            have BK669 := n0_
            have HB := n1_
            clear n0_ n1_
            have n0_ := Aside0.mk (blk_drew BK669.out)
            have n1_ := Aside0.mk (below_drew1 HB.out)
            clear BK669
            clear HB
            have BK669 := n0_
            have HB := n1_
            clear n0_ n1_
            have p671 : 0 ≤ ((ji8) : Int) := of_decide_eq_true (by first | (with_reducible assumption) | assumption)
            have q671 : (ji8) < (l0.length : Int) := of_decide_eq_true (by first | (with_reducible assumption) | assumption)
            obtain ⟨ad671, e671, hx671_0, hx671_1, hx671_2⟩ := at_T84 HR0.out (ji8) p671 q671
            have hw671_2 := hx671_2
            have hw671_1 := hx671_1
            have hw671_0 := hx671_0
            obtain rfl : ad668 = ad671 := (by injection e671)
            replace hx671_0 := (HB.out.cell (World.block_lt_of_cell? w _ hx671_0)).trans hx671_0
            replace hx671_1 := (HB.out.cell (World.block_lt_of_cell? w _ hx671_1)).trans hx671_1
            replace hx671_2 := (HB.out.cell (World.block_lt_of_cell? w _ hx671_2)).trans hx671_2
            replace p671 := eq_true p671
            replace q671 := eq_true q671
            refine start_ (n := 18) (S := fun w' => w'.cell? ⟨gb669, 0, none⟩ = some (.int .i64 ((rd_T84 l0 x7_1).f0)) ∧ w'.cell? ⟨gb669, 1, none⟩ = some (.string ((rd_T84 l0 x7_1).f1)) ∧ w'.cell? ⟨gb669, 2, none⟩ = some (.string ((rd_T84 l0 x7_1).f2)) ∧ w'.cell? (ad668.add (((ji8)).toNat * 3)) = some (.int .i64 ((rd_T84 l0 (ji8)).f0)) ∧ w'.cell? ⟨(ad668.add (((ji8)).toNat * 3)).block, (ad668.add (((ji8)).toNat * 3)).off + 1, none⟩ = some (.string ((rd_T84 l0 (ji8)).f1)) ∧ w'.cell? ⟨(ad668.add (((ji8)).toNat * 3)).block, (ad668.add (((ji8)).toNat * 3)).off + 2, none⟩ = some (.string ((rd_T84 l0 (ji8)).f2))) (ds := []) (bq_ 0 18) (by kernel_rfl) rfl rfl ⟨(blk_cell BK669.out 0).trans rfl, (blk_cell BK669.out 1).trans rfl, (blk_cell BK669.out 2).trans rfl, ((HB.out.cell (World.block_lt_of_cell? w _ hw671_0)).trans hw671_0), ((HB.out.cell (World.block_lt_of_cell? w _ hw671_1)).trans hw671_1), ((HB.out.cell (World.block_lt_of_cell? w _ hw671_2)).trans hw671_2)⟩ (fun hHeld => ?_); refine with_tabW impl_OpsOk.tab4 impl_OpsOk.bits4 (fun HT_ HW_ => ?_)
            generalize w14.drew = w15 at BK669 HB hx671_0 hx671_1 hx671_2 hHeld ⊢
            refine take_ (i := 0) (N := some 12) (v := ?_) (a' := ?_) (bq_ 1 17) rfl rfl (take_ofW HT_.out HW_.out (by kernel_rfl)) (fun _ _ _ h => h) (Or.inl ⟨by rfl, ?_⟩) hHeld ?_ ?_
            rotate_left
            · rintro w' ⟨s0, s1, s2, s3, s4, s5⟩
              go_simp
              with_reducible rfl
            rotate_left
            · simp only [Act.put, sa_, sz_, ss_, i64_w, i32_w]; rfl
            refine on_ 1 (some 13) (bq_ 2 16) HT_ (fun K hK => ?_)
            refine goes_ Try.func88 (by kernel_rfl) rfl #[.agg #[.int .i64 ((rd_T84 l0 x7_1).f0), .string ((rd_T84 l0 x7_1).f1), .string ((rd_T84 l0 x7_1).f2)]] (by rfl) rfl rfl al_ ?_
            with_reducible refine (impl_opOk.calls k1 ((rd_T84 l0 x7_1).f0) ((rd_T84 l0 x7_1).f1) ((rd_T84 l0 x7_1).f2) true _ A5.out).mono ?_
            rintro e w16 ⟨rfl, hb⟩
            refine ⟨_, rfl, ?_⟩
            have n0_ := Aside0.mk (blk_below (g := gb669) (o := .cells #[.int .i64 ((rd_T84 l0 x7_1).f0), .string ((rd_T84 l0 x7_1).f1), .string ((rd_T84 l0 x7_1).f2)] 84 (0, 0)) (bk_ BK669.out) hb)
            have n1_ := Aside0.mk (below_step (bs_ HB.out GE669.out) hb)
            clear BK669
            clear HB
            have BK669 := n0_
            have HB := n1_
            clear n0_ n1_
            (try clear hb)
            (try clear hb2)
            (try clear hk)
            (try clear hi)
            refine hK.out _ _ ⟨(blk_cell BK669.out 0).trans rfl, (blk_cell BK669.out 1).trans rfl, (blk_cell BK669.out 2).trans rfl, ((HB.out.cell (World.block_lt_of_cell? w _ hw671_0)).trans hw671_0), ((HB.out.cell (World.block_lt_of_cell? w _ hw671_1)).trans hw671_1), ((HB.out.cell (World.block_lt_of_cell? w _ hw671_2)).trans hw671_2)⟩ (fun hHeld => ?_)
            clear hK K
            refine nm_ ?_
            refine pu_ 2 (some 14) (bq_ 3 15) HT_ ?_
            refine pu_ 3 (some 15) (bq_ 4 14) HT_ ?_
            refine pu_ 4 (some 16) (bq_ 5 13) HT_ ?_
            refine pu_ 5 (some 17) (bq_ 6 12) HT_ ?_
            refine pu_ 6 (some 18) (bq_ 7 11) HT_ ?_
            refine pu_ 7 (some 19) (bq_ 8 10) HT_ ?_
            refine pu_ 9 (some 21) #[true, true, true, true, true, true, true, true, false, true, false, false, false, false, false, false, false, false] HT_ ?_
            refine pu_ 10 (some 22) #[true, true, true, true, true, true, true, true, false, true, true, false, false, false, false, false, false, false] HT_ ?_
            refine pu_ 11 (some 23) #[true, true, true, true, true, true, true, true, false, true, true, true, false, false, false, false, false, false] HT_ ?_
            refine pu_ 12 (some 24) #[true, true, true, true, true, true, true, true, false, true, true, true, true, false, false, false, false, false] HT_ ?_
            refine pu_ 13 (some 25) #[true, true, true, true, true, true, true, true, false, true, true, true, true, true, false, false, false, false] HT_ ?_
            refine take_ (i := 8) (N := some 20) (v := ?_) (a' := ?_) (bq_ 14 4) rfl rfl (take_ofW HT_.out HW_.out (by kernel_rfl)) (fun _ _ _ h => h) (Or.inl ⟨by rfl, ?_⟩) hHeld ?_ ?_
            rotate_left
            · rintro w' ⟨s0, s1, s2, s3, s4, s5⟩
              go_simp
              with_reducible rfl
            rotate_left
            · simp only [Act.put, sa_, sz_, ss_, i64_w, i32_w]; rfl
            refine take_ (i := 14) (N := some 26) (v := ?_) (a' := ?_) (bq_ 15 3) rfl rfl (take_ofW HT_.out HW_.out (by kernel_rfl)) (fun _ _ _ h => h) (Or.inl ⟨by rfl, ?_⟩) hHeld ?_ ?_
            rotate_left
            · rintro w' ⟨s0, s1, s2, s3, s4, s5⟩
              go_simp
              with_reducible rfl
            rotate_left
            · simp only [Act.put, sa_, sz_, ss_, i64_w, i32_w]; rfl
            refine pu_ 15 (some 27) (bq_ 16 2) HT_ ?_
            refine pu_ 16 (some 28) (bq_ 17 1) HT_ ?_
            refine pu_ 17 (some 29) (bq_ 18 0) HT_ ?_
            refine done_ (done_of HT_.out (by kernel_rfl)) ?_
            try go_wp2
            go_roundg k1
            case measure => have := HK1.out; omega
            case rel => exact ⟨(wrap64 (x7_1 + 1)), (by first | rfl | (simp; done) | (simp [*]; done)), H', ⟨by have := HK1.out; omega⟩, ⟨bs_ HB.out GE669.out⟩⟩
          · rw [if_neg c11] at H
            have c11b0 : (Op.bytesLess (((rd_T84 l0 (ji8)).f1).toList) (((rd_T84 l0 x7_1).f1).toList)) = false := by simpa using c11
            clear c11
            obtain rfl := Option.some.inj H
            have p668 : 0 ≤ (x7_1 : Int) := of_decide_eq_true (by first | (with_reducible assumption) | assumption)
            have q668 : x7_1 < (l0.length : Int) := of_decide_eq_true (by first | (with_reducible assumption) | assumption)
            obtain ⟨ad668, e668, hx668_0, hx668_1, hx668_2⟩ := at_T84 HR0.out x7_1 p668 q668
            cases e668
            replace hx668_0 := (HB.out.cell (World.block_lt_of_cell? w _ hx668_0)).trans hx668_0
            replace hx668_1 := (HB.out.cell (World.block_lt_of_cell? w _ hx668_1)).trans hx668_1
            replace hx668_2 := (HB.out.cell (World.block_lt_of_cell? w _ hx668_2)).trans hx668_2
            replace p668 := eq_true p668
            replace q668 := eq_true q668
            try go_wp2_with (first | ((with_reducible refine gate_dst (N := 4) rfl ?_); refine box_event ?hg (N := 4) ?hd (cs := #[.int .i64 0, .string (⟨#[]⟩ : ByteArray), .string (⟨#[]⟩ : ByteArray)]) (t := 84) ?hr ?_; (case hd => rfl); (case hg => rfl); (case hr => first | (go_simp; done) | (go_simp; rfl)); intro gb669 hg w17 hbox hb; have n0_ := Aside0.mk (below_step (be_ HB.out) hb); have n1_ := Aside0.mk (hbox); have n2_ := Aside0.mk ((by rw [hg]; exact (below_size (be_ HB.out)) : w.heap.size ≤ gb669)); have n3_ := Aside0.mk ((by rw [hg]; exact (below_size (be_ HB.out)) : w.heap.size ≤ gb669)); clear HB; have HB := n0_; have BK669 := n1_; have GW669 := n2_; have GE669 := n3_; clear n0_ n1_ n2_ n3_; clear hb hbox hg; have hcz18_0 : w17.cell? ⟨gb669, 0, none⟩ = some (.int .i64 0) := (blk_cell BK669.out 0).trans rfl; have hcz18_1 : w17.cell? ⟨gb669, 1, none⟩ = some (.string (⟨#[]⟩ : ByteArray)) := (blk_cell BK669.out 1).trans rfl; have hcz18_2 : w17.cell? ⟨gb669, 2, none⟩ = some (.string (⟨#[]⟩ : ByteArray)) := (blk_cell BK669.out 2).trans rfl; have hfz18_0 := blk_frozen BK669.out 0; have hfz18_1 := blk_frozen BK669.out 1; have hfz18_2 := blk_frozen BK669.out 2))
            have n0_ : Aside0 ((((w17.setCell ⟨gb669, 0, none⟩ (.int .i64 ((rd_T84 l0 x7_1).f0))).setCell ⟨gb669, 1, none⟩ (.string ((rd_T84 l0 x7_1).f1))).setCell ⟨gb669, 2, none⟩ (.string ((rd_T84 l0 x7_1).f2))).heap[gb669]? = some (.cells #[.int .i64 ((rd_T84 l0 x7_1).f0), .string ((rd_T84 l0 x7_1).f1), .string ((rd_T84 l0 x7_1).f2)] 84 (0, 0))) := ⟨by (with_reducible repeat (first | refine blk_drewN ?_ _ | refine blk_drew ?_ | refine blk_alloc ?_ _)); refine blk_put (cs := #[.int .i64 ((rd_T84 l0 x7_1).f0), .string ((rd_T84 l0 x7_1).f1), .string (⟨#[]⟩ : ByteArray)]) ?_ 2 _ rfl; (with_reducible repeat (first | refine blk_drewN ?_ _ | refine blk_drew ?_ | refine blk_alloc ?_ _)); refine blk_put (cs := #[.int .i64 ((rd_T84 l0 x7_1).f0), .string (⟨#[]⟩ : ByteArray), .string (⟨#[]⟩ : ByteArray)]) ?_ 1 _ rfl; (with_reducible repeat (first | refine blk_drewN ?_ _ | refine blk_drew ?_ | refine blk_alloc ?_ _)); refine blk_put (cs := #[.int .i64 0, .string (⟨#[]⟩ : ByteArray), .string (⟨#[]⟩ : ByteArray)]) ?_ 0 _ rfl; (with_reducible repeat (first | refine blk_drewN ?_ _ | refine blk_drew ?_ | refine blk_alloc ?_ _)); exact BK669.out⟩
            have n1_ : Aside0 (Below w.heap.size w (((w17.setCell ⟨gb669, 0, none⟩ (.int .i64 ((rd_T84 l0 x7_1).f0))).setCell ⟨gb669, 1, none⟩ (.string ((rd_T84 l0 x7_1).f1))).setCell ⟨gb669, 2, none⟩ (.string ((rd_T84 l0 x7_1).f2)))) := ⟨bs_ HB.out GE669.out⟩
            (try clear BK669)
            (try clear HB)
            generalize (((w17.setCell ⟨gb669, 0, none⟩ (.int .i64 ((rd_T84 l0 x7_1).f0))).setCell ⟨gb669, 1, none⟩ (.string ((rd_T84 l0 x7_1).f1))).setCell ⟨gb669, 2, none⟩ (.string ((rd_T84 l0 x7_1).f2))) = w19 at n0_ n1_ ⊢
            have BK669 := n0_
            have HB := n1_
            clear n0_ n1_
            have n0_ := Aside0.mk (blk_drew BK669.out)
            have n1_ := Aside0.mk (below_drew1 HB.out)
            clear BK669
            clear HB
            have BK669 := n0_
            have HB := n1_
            clear n0_ n1_
            have p671 : 0 ≤ ((ji8) : Int) := of_decide_eq_true (by first | (with_reducible assumption) | assumption)
            have q671 : (ji8) < (l0.length : Int) := of_decide_eq_true (by first | (with_reducible assumption) | assumption)
            obtain ⟨ad671, e671, hx671_0, hx671_1, hx671_2⟩ := at_T84 HR0.out (ji8) p671 q671
            have hw671_2 := hx671_2
            have hw671_1 := hx671_1
            have hw671_0 := hx671_0
            obtain rfl : ad668 = ad671 := (by injection e671)
            replace hx671_0 := (HB.out.cell (World.block_lt_of_cell? w _ hx671_0)).trans hx671_0
            replace hx671_1 := (HB.out.cell (World.block_lt_of_cell? w _ hx671_1)).trans hx671_1
            replace hx671_2 := (HB.out.cell (World.block_lt_of_cell? w _ hx671_2)).trans hx671_2
            replace p671 := eq_true p671
            replace q671 := eq_true q671
            refine start_ (n := 18) (S := fun w' => w'.cell? ⟨gb669, 0, none⟩ = some (.int .i64 ((rd_T84 l0 x7_1).f0)) ∧ w'.cell? ⟨gb669, 1, none⟩ = some (.string ((rd_T84 l0 x7_1).f1)) ∧ w'.cell? ⟨gb669, 2, none⟩ = some (.string ((rd_T84 l0 x7_1).f2)) ∧ w'.cell? (ad668.add (((ji8)).toNat * 3)) = some (.int .i64 ((rd_T84 l0 (ji8)).f0)) ∧ w'.cell? ⟨(ad668.add (((ji8)).toNat * 3)).block, (ad668.add (((ji8)).toNat * 3)).off + 1, none⟩ = some (.string ((rd_T84 l0 (ji8)).f1)) ∧ w'.cell? ⟨(ad668.add (((ji8)).toNat * 3)).block, (ad668.add (((ji8)).toNat * 3)).off + 2, none⟩ = some (.string ((rd_T84 l0 (ji8)).f2))) (ds := []) (bq_ 0 18) (by kernel_rfl) rfl rfl ⟨(blk_cell BK669.out 0).trans rfl, (blk_cell BK669.out 1).trans rfl, (blk_cell BK669.out 2).trans rfl, ((HB.out.cell (World.block_lt_of_cell? w _ hw671_0)).trans hw671_0), ((HB.out.cell (World.block_lt_of_cell? w _ hw671_1)).trans hw671_1), ((HB.out.cell (World.block_lt_of_cell? w _ hw671_2)).trans hw671_2)⟩ (fun hHeld => ?_); refine with_tabW impl_OpsOk.tab4 impl_OpsOk.bits4 (fun HT_ HW_ => ?_)
            generalize w19.drew = w20 at BK669 HB hx671_0 hx671_1 hx671_2 hHeld ⊢
            refine take_ (i := 0) (N := some 12) (v := ?_) (a' := ?_) (bq_ 1 17) rfl rfl (take_ofW HT_.out HW_.out (by kernel_rfl)) (fun _ _ _ h => h) (Or.inl ⟨by rfl, ?_⟩) hHeld ?_ ?_
            rotate_left
            · rintro w' ⟨s0, s1, s2, s3, s4, s5⟩
              go_simp
              with_reducible rfl
            rotate_left
            · simp only [Act.put, sa_, sz_, ss_, i64_w, i32_w]; rfl
            refine on_ 1 (some 13) (bq_ 2 16) HT_ (fun K hK => ?_)
            refine goes_ Try.func88 (by kernel_rfl) rfl #[.agg #[.int .i64 ((rd_T84 l0 x7_1).f0), .string ((rd_T84 l0 x7_1).f1), .string ((rd_T84 l0 x7_1).f2)]] (by rfl) rfl rfl al_ ?_
            with_reducible refine (impl_opOk.calls k1 ((rd_T84 l0 x7_1).f0) ((rd_T84 l0 x7_1).f1) ((rd_T84 l0 x7_1).f2) true _ A5.out).mono ?_
            rintro e w21 ⟨rfl, hb⟩
            refine ⟨_, rfl, ?_⟩
            have n0_ := Aside0.mk (blk_below (g := gb669) (o := .cells #[.int .i64 ((rd_T84 l0 x7_1).f0), .string ((rd_T84 l0 x7_1).f1), .string ((rd_T84 l0 x7_1).f2)] 84 (0, 0)) (bk_ BK669.out) hb)
            have n1_ := Aside0.mk (below_step (bs_ HB.out GE669.out) hb)
            clear BK669
            clear HB
            have BK669 := n0_
            have HB := n1_
            clear n0_ n1_
            (try clear hb)
            (try clear hb2)
            (try clear hk)
            (try clear hi)
            refine hK.out _ _ ⟨(blk_cell BK669.out 0).trans rfl, (blk_cell BK669.out 1).trans rfl, (blk_cell BK669.out 2).trans rfl, ((HB.out.cell (World.block_lt_of_cell? w _ hw671_0)).trans hw671_0), ((HB.out.cell (World.block_lt_of_cell? w _ hw671_1)).trans hw671_1), ((HB.out.cell (World.block_lt_of_cell? w _ hw671_2)).trans hw671_2)⟩ (fun hHeld => ?_)
            clear hK K
            refine nm_ ?_
            refine pu_ 2 (some 14) (bq_ 3 15) HT_ ?_
            refine pu_ 3 (some 15) (bq_ 4 14) HT_ ?_
            refine pu_ 4 (some 16) (bq_ 5 13) HT_ ?_
            refine pu_ 5 (some 17) (bq_ 6 12) HT_ ?_
            refine pu_ 6 (some 18) (bq_ 7 11) HT_ ?_
            refine pu_ 7 (some 19) (bq_ 8 10) HT_ ?_
            refine pu_ 9 (some 21) #[true, true, true, true, true, true, true, true, false, true, false, false, false, false, false, false, false, false] HT_ ?_
            refine pu_ 10 (some 22) #[true, true, true, true, true, true, true, true, false, true, true, false, false, false, false, false, false, false] HT_ ?_
            refine pu_ 11 (some 23) #[true, true, true, true, true, true, true, true, false, true, true, true, false, false, false, false, false, false] HT_ ?_
            refine pu_ 12 (some 24) #[true, true, true, true, true, true, true, true, false, true, true, true, true, false, false, false, false, false] HT_ ?_
            refine pu_ 13 (some 25) #[true, true, true, true, true, true, true, true, false, true, true, true, true, true, false, false, false, false] HT_ ?_
            refine take_ (i := 8) (N := some 20) (v := ?_) (a' := ?_) (bq_ 14 4) rfl rfl (take_ofW HT_.out HW_.out (by kernel_rfl)) (fun _ _ _ h => h) (Or.inl ⟨by rfl, ?_⟩) hHeld ?_ ?_
            rotate_left
            · rintro w' ⟨s0, s1, s2, s3, s4, s5⟩
              go_simp
              with_reducible rfl
            rotate_left
            · simp only [Act.put, sa_, sz_, ss_, i64_w, i32_w]; rfl
            refine take_ (i := 14) (N := some 26) (v := ?_) (a' := ?_) (bq_ 15 3) rfl rfl (take_ofW HT_.out HW_.out (by kernel_rfl)) (fun _ _ _ h => h) (Or.inl ⟨by rfl, ?_⟩) hHeld ?_ ?_
            rotate_left
            · rintro w' ⟨s0, s1, s2, s3, s4, s5⟩
              go_simp
              with_reducible rfl
            rotate_left
            · simp only [Act.put, sa_, sz_, ss_, i64_w, i32_w]; rfl
            refine pu_ 15 (some 27) (bq_ 16 2) HT_ ?_
            refine pu_ 16 (some 28) (bq_ 17 1) HT_ ?_
            refine pu_ 17 (some 29) (bq_ 18 0) HT_ ?_
            refine done_ (done_of HT_.out (by kernel_rfl)) ?_
            try go_wp2
            go_ret
            exact ⟨by first | rfl | (simp [errW_none, errW_some] <;> rfl) | (simp only [← hji8]; first | rfl | (simp [errW_none, errW_some] <;> rfl)) | (simp [*, errW_none, errW_some] <;> rfl), bs_ HB.out GE669.out⟩
        · rw [if_neg c7] at H
          have c7b0 : decide (0 < x7_1) = false := decide_eq_false c7
          clear c7
          have H' := Aside0.mk H
          clear H
          have p668 : 0 ≤ (x7_1 : Int) := of_decide_eq_true (by first | (with_reducible assumption) | assumption)
          have q668 : x7_1 < (l0.length : Int) := of_decide_eq_true (by first | (with_reducible assumption) | assumption)
          obtain ⟨ad668, e668, hx668_0, hx668_1, hx668_2⟩ := at_T84 HR0.out x7_1 p668 q668
          cases e668
          replace hx668_0 := (HB.out.cell (World.block_lt_of_cell? w _ hx668_0)).trans hx668_0
          replace hx668_1 := (HB.out.cell (World.block_lt_of_cell? w _ hx668_1)).trans hx668_1
          replace hx668_2 := (HB.out.cell (World.block_lt_of_cell? w _ hx668_2)).trans hx668_2
          replace p668 := eq_true p668
          replace q668 := eq_true q668
          try go_wp2_with (first | ((with_reducible refine gate_dst (N := 4) rfl ?_); refine box_event ?hg (N := 4) ?hd (cs := #[.int .i64 0, .string (⟨#[]⟩ : ByteArray), .string (⟨#[]⟩ : ByteArray)]) (t := 84) ?hr ?_; (case hd => rfl); (case hg => rfl); (case hr => first | (go_simp; done) | (go_simp; rfl)); intro gb669 hg w22 hbox hb; have n0_ := Aside0.mk (below_step (be_ HB.out) hb); have n1_ := Aside0.mk (hbox); have n2_ := Aside0.mk ((by rw [hg]; exact (below_size (be_ HB.out)) : w.heap.size ≤ gb669)); have n3_ := Aside0.mk ((by rw [hg]; exact (below_size (be_ HB.out)) : w.heap.size ≤ gb669)); clear HB; have HB := n0_; have BK669 := n1_; have GW669 := n2_; have GE669 := n3_; clear n0_ n1_ n2_ n3_; clear hb hbox hg; have hcz23_0 : w22.cell? ⟨gb669, 0, none⟩ = some (.int .i64 0) := (blk_cell BK669.out 0).trans rfl; have hcz23_1 : w22.cell? ⟨gb669, 1, none⟩ = some (.string (⟨#[]⟩ : ByteArray)) := (blk_cell BK669.out 1).trans rfl; have hcz23_2 : w22.cell? ⟨gb669, 2, none⟩ = some (.string (⟨#[]⟩ : ByteArray)) := (blk_cell BK669.out 2).trans rfl; have hfz23_0 := blk_frozen BK669.out 0; have hfz23_1 := blk_frozen BK669.out 1; have hfz23_2 := blk_frozen BK669.out 2))
          have n0_ : Aside0 ((((w22.setCell ⟨gb669, 0, none⟩ (.int .i64 ((rd_T84 l0 x7_1).f0))).setCell ⟨gb669, 1, none⟩ (.string ((rd_T84 l0 x7_1).f1))).setCell ⟨gb669, 2, none⟩ (.string ((rd_T84 l0 x7_1).f2))).heap[gb669]? = some (.cells #[.int .i64 ((rd_T84 l0 x7_1).f0), .string ((rd_T84 l0 x7_1).f1), .string ((rd_T84 l0 x7_1).f2)] 84 (0, 0))) := ⟨by (with_reducible repeat (first | refine blk_drewN ?_ _ | refine blk_drew ?_ | refine blk_alloc ?_ _)); refine blk_put (cs := #[.int .i64 ((rd_T84 l0 x7_1).f0), .string ((rd_T84 l0 x7_1).f1), .string (⟨#[]⟩ : ByteArray)]) ?_ 2 _ rfl; (with_reducible repeat (first | refine blk_drewN ?_ _ | refine blk_drew ?_ | refine blk_alloc ?_ _)); refine blk_put (cs := #[.int .i64 ((rd_T84 l0 x7_1).f0), .string (⟨#[]⟩ : ByteArray), .string (⟨#[]⟩ : ByteArray)]) ?_ 1 _ rfl; (with_reducible repeat (first | refine blk_drewN ?_ _ | refine blk_drew ?_ | refine blk_alloc ?_ _)); refine blk_put (cs := #[.int .i64 0, .string (⟨#[]⟩ : ByteArray), .string (⟨#[]⟩ : ByteArray)]) ?_ 0 _ rfl; (with_reducible repeat (first | refine blk_drewN ?_ _ | refine blk_drew ?_ | refine blk_alloc ?_ _)); exact BK669.out⟩
          have n1_ : Aside0 (Below w.heap.size w (((w22.setCell ⟨gb669, 0, none⟩ (.int .i64 ((rd_T84 l0 x7_1).f0))).setCell ⟨gb669, 1, none⟩ (.string ((rd_T84 l0 x7_1).f1))).setCell ⟨gb669, 2, none⟩ (.string ((rd_T84 l0 x7_1).f2)))) := ⟨bs_ HB.out GE669.out⟩
          (try clear BK669)
          (try clear HB)
          generalize (((w22.setCell ⟨gb669, 0, none⟩ (.int .i64 ((rd_T84 l0 x7_1).f0))).setCell ⟨gb669, 1, none⟩ (.string ((rd_T84 l0 x7_1).f1))).setCell ⟨gb669, 2, none⟩ (.string ((rd_T84 l0 x7_1).f2))) = w24 at n0_ n1_ ⊢
          have BK669 := n0_
          have HB := n1_
          clear n0_ n1_
          have n0_ := Aside0.mk (blk_drew BK669.out)
          have n1_ := Aside0.mk (below_drew1 HB.out)
          clear BK669
          clear HB
          have BK669 := n0_
          have HB := n1_
          clear n0_ n1_
          refine start_ (n := 18) (S := fun w' => w'.cell? ⟨gb669, 0, none⟩ = some (.int .i64 ((rd_T84 l0 x7_1).f0)) ∧ w'.cell? ⟨gb669, 1, none⟩ = some (.string ((rd_T84 l0 x7_1).f1)) ∧ w'.cell? ⟨gb669, 2, none⟩ = some (.string ((rd_T84 l0 x7_1).f2))) (ds := []) (bq_ 0 18) (by kernel_rfl) rfl rfl ⟨(blk_cell BK669.out 0).trans rfl, (blk_cell BK669.out 1).trans rfl, (blk_cell BK669.out 2).trans rfl⟩ (fun hHeld => ?_); refine with_tabW impl_OpsOk.tab4 impl_OpsOk.bits4 (fun HT_ HW_ => ?_)
          generalize w24.drew = w25 at BK669 HB hHeld ⊢
          refine take_ (i := 0) (N := some 12) (v := ?_) (a' := ?_) (bq_ 1 17) rfl rfl (take_ofW HT_.out HW_.out (by kernel_rfl)) (fun _ _ _ h => h) (Or.inl ⟨by rfl, ?_⟩) hHeld ?_ ?_
          rotate_left
          · rintro w' ⟨s0, s1, s2⟩
            go_simp
            with_reducible rfl
          rotate_left
          · simp only [Act.put, sa_, sz_, ss_, i64_w, i32_w]; rfl
          refine on_ 1 (some 13) (bq_ 2 16) HT_ (fun K hK => ?_)
          refine goes_ Try.func88 (by kernel_rfl) rfl #[.agg #[.int .i64 ((rd_T84 l0 x7_1).f0), .string ((rd_T84 l0 x7_1).f1), .string ((rd_T84 l0 x7_1).f2)]] (by rfl) rfl rfl al_ ?_
          with_reducible refine (impl_opOk.calls k1 ((rd_T84 l0 x7_1).f0) ((rd_T84 l0 x7_1).f1) ((rd_T84 l0 x7_1).f2) true _ A5.out).mono ?_
          rintro e w26 ⟨rfl, hb⟩
          refine ⟨_, rfl, ?_⟩
          have n0_ := Aside0.mk (blk_below (g := gb669) (o := .cells #[.int .i64 ((rd_T84 l0 x7_1).f0), .string ((rd_T84 l0 x7_1).f1), .string ((rd_T84 l0 x7_1).f2)] 84 (0, 0)) (bk_ BK669.out) hb)
          have n1_ := Aside0.mk (below_step (bs_ HB.out GE669.out) hb)
          clear BK669
          clear HB
          have BK669 := n0_
          have HB := n1_
          clear n0_ n1_
          (try clear hb)
          (try clear hb2)
          (try clear hk)
          (try clear hi)
          refine hK.out _ _ ⟨(blk_cell BK669.out 0).trans rfl, (blk_cell BK669.out 1).trans rfl, (blk_cell BK669.out 2).trans rfl⟩ (fun hHeld => ?_)
          clear hK K
          refine nm_ ?_
          refine pu_ 2 (some 14) (bq_ 3 15) HT_ ?_
          refine pu_ 3 (some 15) (bq_ 4 14) HT_ ?_
          refine pu_ 4 (some 16) (bq_ 5 13) HT_ ?_
          refine pu_ 5 (some 17) (bq_ 6 12) HT_ ?_
          refine pu_ 6 (some 18) (bq_ 7 11) HT_ ?_
          refine pure_ (i := 7) (N := some 19) (v := undef) (a' := ?_) (bq_ 8 10) rfl rfl (any_of HT_.out (by kernel_rfl)) (fun _ _ _ h => h) (Or.inr ⟨by rfl, rfl⟩) ?_ ?_
          rotate_left
          · simp only [Act.put, sa_, sz_, ss_, i64_w, i32_w]; rfl
          refine pure_ (i := 8) (N := some 20) (v := undef) (a' := ?_) (bq_ 9 9) rfl rfl (any_of HT_.out (by kernel_rfl)) (fun _ _ _ h => h) (Or.inr ⟨by rfl, rfl⟩) ?_ ?_
          rotate_left
          · simp only [Act.put, sa_, sz_, ss_, i64_w, i32_w]; rfl
          refine pure_ (i := 9) (N := some 21) (v := undef) (a' := ?_) (bq_ 10 8) rfl rfl (any_of HT_.out (by kernel_rfl)) (fun _ _ _ h => h) (Or.inr ⟨by rfl, rfl⟩) ?_ ?_
          rotate_left
          · simp only [Act.put, sa_, sz_, ss_, i64_w, i32_w]; rfl
          refine pure_ (i := 10) (N := some 22) (v := undef) (a' := ?_) (bq_ 11 7) rfl rfl (any_of HT_.out (by kernel_rfl)) (fun _ _ _ h => h) (Or.inr ⟨by rfl, rfl⟩) ?_ ?_
          rotate_left
          · simp only [Act.put, sa_, sz_, ss_, i64_w, i32_w]; rfl
          refine pure_ (i := 11) (N := some 23) (v := undef) (a' := ?_) (bq_ 12 6) rfl rfl (any_of HT_.out (by kernel_rfl)) (fun _ _ _ h => h) (Or.inr ⟨by rfl, rfl⟩) ?_ ?_
          rotate_left
          · simp only [Act.put, sa_, sz_, ss_, i64_w, i32_w]; rfl
          refine pure_ (i := 12) (N := some 24) (v := undef) (a' := ?_) (bq_ 13 5) rfl rfl (any_of HT_.out (by kernel_rfl)) (fun _ _ _ h => h) (Or.inr ⟨by rfl, rfl⟩) ?_ ?_
          rotate_left
          · simp only [Act.put, sa_, sz_, ss_, i64_w, i32_w]; rfl
          refine pure_ (i := 13) (N := some 25) (v := undef) (a' := ?_) (bq_ 14 4) rfl rfl (any_of HT_.out (by kernel_rfl)) (fun _ _ _ h => h) (Or.inr ⟨by rfl, rfl⟩) ?_ ?_
          rotate_left
          · simp only [Act.put, sa_, sz_, ss_, i64_w, i32_w]; rfl
          refine pure_ (i := 14) (N := some 26) (v := undef) (a' := ?_) (bq_ 15 3) rfl rfl (any_of HT_.out (by kernel_rfl)) (fun _ _ _ h => h) (Or.inr ⟨by rfl, rfl⟩) ?_ ?_
          rotate_left
          · simp only [Act.put, sa_, sz_, ss_, i64_w, i32_w]; rfl
          refine pure_ (i := 15) (N := some 27) (v := undef) (a' := ?_) (bq_ 16 2) rfl rfl (any_of HT_.out (by kernel_rfl)) (fun _ _ _ h => h) (Or.inr ⟨by rfl, rfl⟩) ?_ ?_
          rotate_left
          · simp only [Act.put, sa_, sz_, ss_, i64_w, i32_w]; rfl
          refine pu_ 16 (some 28) (bq_ 17 1) HT_ ?_
          refine pu_ 17 (some 29) (bq_ 18 0) HT_ ?_
          refine done_ (done_of HT_.out (by kernel_rfl)) ?_
          try go_wp2
          go_roundg k1
          case measure => have := HK1.out; omega
          case rel => exact ⟨(wrap64 (x7_1 + 1)), (by first | rfl | (simp; done) | (simp [*]; done)), H', ⟨by have := HK1.out; omega⟩, ⟨bs_ HB.out GE669.out⟩⟩
      · replace c6 := Bool.eq_false_iff.mpr c6
        subst c6
        have H1 : (some false) = some r := by rw [if_neg (show ¬ (false = true) by decide)] at H; exact H
        clear H
        have H := H1
        clear H1
        obtain rfl := Option.some.inj H
        have p668 : 0 ≤ (x7_1 : Int) := of_decide_eq_true (by first | (with_reducible assumption) | assumption)
        have q668 : x7_1 < (l0.length : Int) := of_decide_eq_true (by first | (with_reducible assumption) | assumption)
        obtain ⟨ad668, e668, hx668_0, hx668_1, hx668_2⟩ := at_T84 HR0.out x7_1 p668 q668
        cases e668
        replace hx668_0 := (HB.out.cell (World.block_lt_of_cell? w _ hx668_0)).trans hx668_0
        replace hx668_1 := (HB.out.cell (World.block_lt_of_cell? w _ hx668_1)).trans hx668_1
        replace hx668_2 := (HB.out.cell (World.block_lt_of_cell? w _ hx668_2)).trans hx668_2
        replace p668 := eq_true p668
        replace q668 := eq_true q668
        try go_wp2_with (first | ((with_reducible refine gate_dst (N := 4) rfl ?_); refine box_event ?hg (N := 4) ?hd (cs := #[.int .i64 0, .string (⟨#[]⟩ : ByteArray), .string (⟨#[]⟩ : ByteArray)]) (t := 84) ?hr ?_; (case hd => rfl); (case hg => rfl); (case hr => first | (go_simp; done) | (go_simp; rfl)); intro gb669 hg w27 hbox hb; have n0_ := Aside0.mk (below_step (be_ HB.out) hb); have n1_ := Aside0.mk (hbox); have n2_ := Aside0.mk ((by rw [hg]; exact (below_size (be_ HB.out)) : w.heap.size ≤ gb669)); have n3_ := Aside0.mk ((by rw [hg]; exact (below_size (be_ HB.out)) : w.heap.size ≤ gb669)); clear HB; have HB := n0_; have BK669 := n1_; have GW669 := n2_; have GE669 := n3_; clear n0_ n1_ n2_ n3_; clear hb hbox hg; have hcz28_0 : w27.cell? ⟨gb669, 0, none⟩ = some (.int .i64 0) := (blk_cell BK669.out 0).trans rfl; have hcz28_1 : w27.cell? ⟨gb669, 1, none⟩ = some (.string (⟨#[]⟩ : ByteArray)) := (blk_cell BK669.out 1).trans rfl; have hcz28_2 : w27.cell? ⟨gb669, 2, none⟩ = some (.string (⟨#[]⟩ : ByteArray)) := (blk_cell BK669.out 2).trans rfl; have hfz28_0 := blk_frozen BK669.out 0; have hfz28_1 := blk_frozen BK669.out 1; have hfz28_2 := blk_frozen BK669.out 2))
        have n0_ : Aside0 ((((w27.setCell ⟨gb669, 0, none⟩ (.int .i64 ((rd_T84 l0 x7_1).f0))).setCell ⟨gb669, 1, none⟩ (.string ((rd_T84 l0 x7_1).f1))).setCell ⟨gb669, 2, none⟩ (.string ((rd_T84 l0 x7_1).f2))).heap[gb669]? = some (.cells #[.int .i64 ((rd_T84 l0 x7_1).f0), .string ((rd_T84 l0 x7_1).f1), .string ((rd_T84 l0 x7_1).f2)] 84 (0, 0))) := ⟨by (with_reducible repeat (first | refine blk_drewN ?_ _ | refine blk_drew ?_ | refine blk_alloc ?_ _)); refine blk_put (cs := #[.int .i64 ((rd_T84 l0 x7_1).f0), .string ((rd_T84 l0 x7_1).f1), .string (⟨#[]⟩ : ByteArray)]) ?_ 2 _ rfl; (with_reducible repeat (first | refine blk_drewN ?_ _ | refine blk_drew ?_ | refine blk_alloc ?_ _)); refine blk_put (cs := #[.int .i64 ((rd_T84 l0 x7_1).f0), .string (⟨#[]⟩ : ByteArray), .string (⟨#[]⟩ : ByteArray)]) ?_ 1 _ rfl; (with_reducible repeat (first | refine blk_drewN ?_ _ | refine blk_drew ?_ | refine blk_alloc ?_ _)); refine blk_put (cs := #[.int .i64 0, .string (⟨#[]⟩ : ByteArray), .string (⟨#[]⟩ : ByteArray)]) ?_ 0 _ rfl; (with_reducible repeat (first | refine blk_drewN ?_ _ | refine blk_drew ?_ | refine blk_alloc ?_ _)); exact BK669.out⟩
        have n1_ : Aside0 (Below w.heap.size w (((w27.setCell ⟨gb669, 0, none⟩ (.int .i64 ((rd_T84 l0 x7_1).f0))).setCell ⟨gb669, 1, none⟩ (.string ((rd_T84 l0 x7_1).f1))).setCell ⟨gb669, 2, none⟩ (.string ((rd_T84 l0 x7_1).f2)))) := ⟨bs_ HB.out GE669.out⟩
        (try clear BK669)
        (try clear HB)
        generalize (((w27.setCell ⟨gb669, 0, none⟩ (.int .i64 ((rd_T84 l0 x7_1).f0))).setCell ⟨gb669, 1, none⟩ (.string ((rd_T84 l0 x7_1).f1))).setCell ⟨gb669, 2, none⟩ (.string ((rd_T84 l0 x7_1).f2))) = w29 at n0_ n1_ ⊢
        have BK669 := n0_
        have HB := n1_
        clear n0_ n1_
        have n0_ := Aside0.mk (blk_drew BK669.out)
        have n1_ := Aside0.mk (below_drew1 HB.out)
        clear BK669
        clear HB
        have BK669 := n0_
        have HB := n1_
        clear n0_ n1_
        refine start_ (n := 18) (S := fun w' => w'.cell? ⟨gb669, 0, none⟩ = some (.int .i64 ((rd_T84 l0 x7_1).f0)) ∧ w'.cell? ⟨gb669, 1, none⟩ = some (.string ((rd_T84 l0 x7_1).f1)) ∧ w'.cell? ⟨gb669, 2, none⟩ = some (.string ((rd_T84 l0 x7_1).f2))) (ds := []) (bq_ 0 18) (by kernel_rfl) rfl rfl ⟨(blk_cell BK669.out 0).trans rfl, (blk_cell BK669.out 1).trans rfl, (blk_cell BK669.out 2).trans rfl⟩ (fun hHeld => ?_); refine with_tabW impl_OpsOk.tab4 impl_OpsOk.bits4 (fun HT_ HW_ => ?_)
        generalize w29.drew = w30 at BK669 HB hHeld ⊢
        refine take_ (i := 0) (N := some 12) (v := ?_) (a' := ?_) (bq_ 1 17) rfl rfl (take_ofW HT_.out HW_.out (by kernel_rfl)) (fun _ _ _ h => h) (Or.inl ⟨by rfl, ?_⟩) hHeld ?_ ?_
        rotate_left
        · rintro w' ⟨s0, s1, s2⟩
          go_simp
          with_reducible rfl
        rotate_left
        · simp only [Act.put, sa_, sz_, ss_, i64_w, i32_w]; rfl
        refine on_ 1 (some 13) (bq_ 2 16) HT_ (fun K hK => ?_)
        refine goes_ Try.func88 (by kernel_rfl) rfl #[.agg #[.int .i64 ((rd_T84 l0 x7_1).f0), .string ((rd_T84 l0 x7_1).f1), .string ((rd_T84 l0 x7_1).f2)]] (by rfl) rfl rfl al_ ?_
        with_reducible refine (impl_opOk.calls k1 ((rd_T84 l0 x7_1).f0) ((rd_T84 l0 x7_1).f1) ((rd_T84 l0 x7_1).f2) false _ A5.out).mono ?_
        rintro e w31 ⟨rfl, hb⟩
        refine ⟨_, rfl, ?_⟩
        have n0_ := Aside0.mk (blk_below (g := gb669) (o := .cells #[.int .i64 ((rd_T84 l0 x7_1).f0), .string ((rd_T84 l0 x7_1).f1), .string ((rd_T84 l0 x7_1).f2)] 84 (0, 0)) (bk_ BK669.out) hb)
        have n1_ := Aside0.mk (below_step (bs_ HB.out GE669.out) hb)
        clear BK669
        clear HB
        have BK669 := n0_
        have HB := n1_
        clear n0_ n1_
        (try clear hb)
        (try clear hb2)
        (try clear hk)
        (try clear hi)
        refine hK.out _ _ ⟨(blk_cell BK669.out 0).trans rfl, (blk_cell BK669.out 1).trans rfl, (blk_cell BK669.out 2).trans rfl⟩ (fun hHeld => ?_)
        clear hK K
        refine nm_ ?_
        refine pu_ 2 (some 14) (bq_ 3 15) HT_ ?_
        refine pu_ 3 (some 15) (bq_ 4 14) HT_ ?_
        refine pure_ (i := 4) (N := some 16) (v := undef) (a' := ?_) (bq_ 5 13) rfl rfl (any_of HT_.out (by kernel_rfl)) (fun _ _ _ h => h) (Or.inr ⟨by rfl, rfl⟩) ?_ ?_
        rotate_left
        · simp only [Act.put, sa_, sz_, ss_, i64_w, i32_w]; rfl
        refine pure_ (i := 5) (N := some 17) (v := undef) (a' := ?_) (bq_ 6 12) rfl rfl (any_of HT_.out (by kernel_rfl)) (fun _ _ _ h => h) (Or.inr ⟨by rfl, rfl⟩) ?_ ?_
        rotate_left
        · simp only [Act.put, sa_, sz_, ss_, i64_w, i32_w]; rfl
        refine pure_ (i := 6) (N := some 18) (v := undef) (a' := ?_) (bq_ 7 11) rfl rfl (any_of HT_.out (by kernel_rfl)) (fun _ _ _ h => h) (Or.inr ⟨by rfl, rfl⟩) ?_ ?_
        rotate_left
        · simp only [Act.put, sa_, sz_, ss_, i64_w, i32_w]; rfl
        refine pure_ (i := 7) (N := some 19) (v := undef) (a' := ?_) (bq_ 8 10) rfl rfl (any_of HT_.out (by kernel_rfl)) (fun _ _ _ h => h) (Or.inr ⟨by rfl, rfl⟩) ?_ ?_
        rotate_left
        · simp only [Act.put, sa_, sz_, ss_, i64_w, i32_w]; rfl
        refine pure_ (i := 8) (N := some 20) (v := undef) (a' := ?_) (bq_ 9 9) rfl rfl (any_of HT_.out (by kernel_rfl)) (fun _ _ _ h => h) (Or.inr ⟨by rfl, rfl⟩) ?_ ?_
        rotate_left
        · simp only [Act.put, sa_, sz_, ss_, i64_w, i32_w]; rfl
        refine pure_ (i := 9) (N := some 21) (v := undef) (a' := ?_) (bq_ 10 8) rfl rfl (any_of HT_.out (by kernel_rfl)) (fun _ _ _ h => h) (Or.inr ⟨by rfl, rfl⟩) ?_ ?_
        rotate_left
        · simp only [Act.put, sa_, sz_, ss_, i64_w, i32_w]; rfl
        refine pure_ (i := 10) (N := some 22) (v := undef) (a' := ?_) (bq_ 11 7) rfl rfl (any_of HT_.out (by kernel_rfl)) (fun _ _ _ h => h) (Or.inr ⟨by rfl, rfl⟩) ?_ ?_
        rotate_left
        · simp only [Act.put, sa_, sz_, ss_, i64_w, i32_w]; rfl
        refine pure_ (i := 11) (N := some 23) (v := undef) (a' := ?_) (bq_ 12 6) rfl rfl (any_of HT_.out (by kernel_rfl)) (fun _ _ _ h => h) (Or.inr ⟨by rfl, rfl⟩) ?_ ?_
        rotate_left
        · simp only [Act.put, sa_, sz_, ss_, i64_w, i32_w]; rfl
        refine pure_ (i := 12) (N := some 24) (v := undef) (a' := ?_) (bq_ 13 5) rfl rfl (any_of HT_.out (by kernel_rfl)) (fun _ _ _ h => h) (Or.inr ⟨by rfl, rfl⟩) ?_ ?_
        rotate_left
        · simp only [Act.put, sa_, sz_, ss_, i64_w, i32_w]; rfl
        refine pure_ (i := 13) (N := some 25) (v := undef) (a' := ?_) (bq_ 14 4) rfl rfl (any_of HT_.out (by kernel_rfl)) (fun _ _ _ h => h) (Or.inr ⟨by rfl, rfl⟩) ?_ ?_
        rotate_left
        · simp only [Act.put, sa_, sz_, ss_, i64_w, i32_w]; rfl
        refine pure_ (i := 14) (N := some 26) (v := undef) (a' := ?_) (bq_ 15 3) rfl rfl (any_of HT_.out (by kernel_rfl)) (fun _ _ _ h => h) (Or.inr ⟨by rfl, rfl⟩) ?_ ?_
        rotate_left
        · simp only [Act.put, sa_, sz_, ss_, i64_w, i32_w]; rfl
        refine pure_ (i := 15) (N := some 27) (v := undef) (a' := ?_) (bq_ 16 2) rfl rfl (any_of HT_.out (by kernel_rfl)) (fun _ _ _ h => h) (Or.inr ⟨by rfl, rfl⟩) ?_ ?_
        rotate_left
        · simp only [Act.put, sa_, sz_, ss_, i64_w, i32_w]; rfl
        refine pure_ (i := 16) (N := some 28) (v := undef) (a' := ?_) (bq_ 17 1) rfl rfl (any_of HT_.out (by kernel_rfl)) (fun _ _ _ h => h) (Or.inr ⟨by rfl, rfl⟩) ?_ ?_
        rotate_left
        · simp only [Act.put, sa_, sz_, ss_, i64_w, i32_w]; rfl
        refine pu_ 17 (some 29) (bq_ 18 0) HT_ ?_
        refine done_ (done_of HT_.out (by kernel_rfl)) ?_
        try go_wp2
        go_ret
        exact ⟨by first | rfl | (simp [errW_none, errW_some] <;> rfl) | (simp [*, errW_none, errW_some] <;> rfl), bs_ HB.out GE669.out⟩
    · rw [if_neg c2] at H
      have c2b0 : decide (x7_1 < (l0.length : Int)) = false := decide_eq_false c2
      clear c2
      replace H := Option.bind_eq_some_iff.mp H
      obtain ⟨t672, A320, H⟩ := H
      have A32 := Aside0.mk A320
      clear A320
      obtain rfl := Option.some.inj H
      go_wp2_with (first | ((with_reducible refine gate_callee (f := 81) rfl ?_); refine goesL_ (some 33) rfl rfl Try.func81 (by kernel_rfl) rfl #[.int .i64 (l0.length : Int), .int .i64 1, .int .i64 8] rfl al_ ?_; (with_reducible refine (impl_inRange.calls (l0.length : Int) 1 8 t672 _ A32.out).mono ?_); rintro e w' ⟨rfl, ⟨nd, rfl⟩⟩; refine ⟨_, rfl, ?_⟩))
      go_ret
      exact ⟨by first | rfl | (simp [errW_none, errW_some] <;> rfl) | (simp [*, errW_none, errW_some] <;> rfl), be_ HB.out⟩

end Go.Proofs.Ytamkjoflkkffhaa.P
