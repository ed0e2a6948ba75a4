-- Written by wip/xp/xp.py over the kit's print; Lean checks it.
import Derived.Test.YtgaalomhipfgjaaStr
import Derived.Test.YtgaalomhipfgjaaPx0
import Derived.Test.YtgaalomhipfgjaaPx5
import Derived.Test.YtgaalomhipfgjaaPx8
import Derived.Test.YtgaalomhipfgjaaPx10
namespace Go.Proofs.Ytgaalomhipfgjaa.P
open Go.RowKit Go.Proofs.YtgaalomhipfgjaaW.PrintWords Go.Proofs.YtgaalomhipfgjaaW.PrintLast Go.Proofs.YtgaalomhipfgjaaW.PrintMore
attribute [local go_sem] max2_int min2_int max_two min_two max_three min_three max_four min_four   -- for this text's walks alone
set_option linter.unusedVariables false
set_option linter.unusedSimpArgs false

/-! ###  impl_reaches: function 76 -/
def impl_reaches.f (a0 : ByteArray) (a1 : ByteArray) (a2_0 : Int) (a2_1 : Int) (l2_2 : List (S63)) : Option (Bool) := if a2_1 = 0 then (if (wrap64 (a2_1 + (wrap64 ((l2_2.length : Int) - 1)))) = (wrap64 (a2_0 - 1)) then (some true) else (if a1.toList = ([] : List UInt8) then (some false) else (if 0 ≤ (wrap64 ((l2_2.length : Int) - 1)) then (if (wrap64 ((l2_2.length : Int) - 1)) < (l2_2.length : Int) then (some (!(Op.bytesLess (((rd_T63 l2_2 (wrap64 ((l2_2.length : Int) - 1))).f0.f0).toList) a1.toList))) else (none)) else (none)))) else (if 0 < (l2_2.length : Int) then (if (Op.bytesLess (((rd_T63 l2_2 0).f0.f0).toList) a0.toList) = true then (if (wrap64 (a2_1 + (wrap64 ((l2_2.length : Int) - 1)))) = (wrap64 (a2_0 - 1)) then (some true) else (if a1.toList = ([] : List UInt8) then (some false) else (if 0 ≤ (wrap64 ((l2_2.length : Int) - 1)) then (if (wrap64 ((l2_2.length : Int) - 1)) < (l2_2.length : Int) then (some (!(Op.bytesLess (((rd_T63 l2_2 (wrap64 ((l2_2.length : Int) - 1))).f0.f0).toList) a1.toList))) else (none)) else (none)))) else (some false)) else (none))
set_option maxHeartbeats 8000000 in
set_option maxRecDepth 100000 in
theorem impl_reaches.calls (a0 : ByteArray) (a1 : ByteArray) (a2_0 : Int) (a2_1 : Int) (A2_2 : Option Addr) (c2_2 : Nat) (l2_2 : List (S63)) (r : Bool) (w : World) (hr2_2 : Kd.C k63 w A2_2 l2_2.length l2_2) (hc2_2 : l2_2.length ≤ c2_2) (h : impl_reaches.f a0 a1 a2_0 a2_1 l2_2 = some r) :
  Calls Try.prog 76 #[.string a0, .string a1, .agg #[.int .i64 a2_0, .int .i64 a2_1, .slice A2_2 l2_2.length c2_2]] w fun e w' => e = .returned (.bool r) ∧ Below w.heap.size w w' := by
  have hu44 := Try.underlying44
  have HR2_2 := Aside0.mk hr2_2
  have HC2_2 := Aside0.mk hc2_2
  clear hr2_2 hc2_2
  have HB := q_ (Below.refl w.heap.size w)
  have H : (if a2_1 = 0 then (if (wrap64 (a2_1 + (wrap64 ((l2_2.length : Int) - 1)))) = (wrap64 (a2_0 - 1)) then (some true) else (if a1.toList = ([] : List UInt8) then (some false) else (if 0 ≤ (wrap64 ((l2_2.length : Int) - 1)) then (if (wrap64 ((l2_2.length : Int) - 1)) < (l2_2.length : Int) then (some (!(Op.bytesLess (((rd_T63 l2_2 (wrap64 ((l2_2.length : Int) - 1))).f0.f0).toList) a1.toList))) else (none)) else (none)))) else (if 0 < (l2_2.length : Int) then (if (Op.bytesLess (((rd_T63 l2_2 0).f0.f0).toList) a0.toList) = true then (if (wrap64 (a2_1 + (wrap64 ((l2_2.length : Int) - 1)))) = (wrap64 (a2_0 - 1)) then (some true) else (if a1.toList = ([] : List UInt8) then (some false) else (if 0 ≤ (wrap64 ((l2_2.length : Int) - 1)) then (if (wrap64 ((l2_2.length : Int) - 1)) < (l2_2.length : Int) then (some (!(Op.bytesLess (((rd_T63 l2_2 (wrap64 ((l2_2.length : Int) - 1))).f0.f0).toList) a1.toList))) else (none)) else (none)))) else (some false)) else (none))) = some r := h
  clear h
  by_cases c4 : a2_1 = 0
  · rw [if_pos c4] at H
    have c4b0 : (a2_1 == 0) = true := beq_iff_eq.mpr c4
    have c4b1 : (a2_1 != 0) = false := bne_eq_false_iff_eq.mpr c4
    clear c4
    by_cases c5 : (wrap64 (a2_1 + (wrap64 ((l2_2.length : Int) - 1)))) = (wrap64 (a2_0 - 1))
    · rw [if_pos c5] at H
      have c5b0 : ((wrap64 (a2_1 + (wrap64 ((l2_2.length : Int) - 1)))) == (wrap64 (a2_0 - 1))) = true := beq_iff_eq.mpr c5
      have c5b1 : ((wrap64 (a2_1 + (wrap64 ((l2_2.length : Int) - 1)))) != (wrap64 (a2_0 - 1))) = false := bne_eq_false_iff_eq.mpr c5
      clear c5
      obtain rfl := Option.some.inj H
      go_enter Try.func76, Try.ntmps76
      go_wp2_with (first | ((with_reducible refine gate_dst (N := 5) rfl ?_); refine box_event rfl (N := 5) rfl (cs := #[.int .i64 a2_0, .int .i64 a2_1, .slice A2_2 l2_2.length c2_2]) (t := 44) hr_ ?_; intro gb575 hg w6 hbox hb; have BK575 := q_ (hbox); have GW575 := q_ ((by rw [hg]; exact (below_size (be_ HB.out)) : w.heap.size ≤ gb575)); have GE575 := q_ ((by rw [hg]; exact (below_size (be_ HB.out)) : w.heap.size ≤ gb575)); replace HB := q_ (below_step (be_ HB.out) hb); clear hb hbox hg; obtain ⟨hcz7_0, hcz7_1, hcz7_2, hfz7_0, hfz7_1, hfz7_2⟩ := bx3_ BK575.out))
      go_ret
      exact ⟨rf_, bs_ HB.out GE575.out⟩
    rw [if_neg c5] at H
    have c5b0 : ((wrap64 (a2_1 + (wrap64 ((l2_2.length : Int) - 1)))) == (wrap64 (a2_0 - 1))) = false := beq_eq_false_iff_ne.mpr c5
    have c5b1 : ((wrap64 (a2_1 + (wrap64 ((l2_2.length : Int) - 1)))) != (wrap64 (a2_0 - 1))) = true := bne_iff_ne.mpr c5
    by_cases c8 : a1.toList = ([] : List UInt8)
    · rw [if_pos c8] at H
      have c8b0 : (a1.toList == ([] : List UInt8)) = true := beq_iff_eq.mpr c8
      have c8b1 : (a1.toList != ([] : List UInt8)) = false := bne_eq_false_iff_eq.mpr c8
      clear c8
      obtain rfl := Option.some.inj H
      go_enter Try.func76, Try.ntmps76
      go_wp2_with (first | ((with_reducible refine gate_dst (N := 5) rfl ?_); refine box_event rfl (N := 5) rfl (cs := #[.int .i64 a2_0, .int .i64 a2_1, .slice A2_2 l2_2.length c2_2]) (t := 44) hr_ ?_; intro gb575 hg w9 hbox hb; have BK575 := q_ (hbox); have GW575 := q_ ((by rw [hg]; exact (below_size (be_ HB.out)) : w.heap.size ≤ gb575)); have GE575 := q_ ((by rw [hg]; exact (below_size (be_ HB.out)) : w.heap.size ≤ gb575)); replace HB := q_ (below_step (be_ HB.out) hb); clear hb hbox hg; obtain ⟨hcz10_0, hcz10_1, hcz10_2, hfz10_0, hfz10_1, hfz10_2⟩ := bx3_ BK575.out))
      go_ret
      exact ⟨rf_, bs_ HB.out GE575.out⟩
    rw [if_neg c8] at H
    have c8b0 : (a1.toList == ([] : List UInt8)) = false := beq_eq_false_iff_ne.mpr c8
    have c8b1 : (a1.toList != ([] : List UInt8)) = true := bne_iff_ne.mpr c8
    obtain ⟨ji11, hji11⟩ : ∃ j_ : Int, (wrap64 ((l2_2.length : Int) - 1)) = j_ := ⟨_, rfl⟩
    replace H : (if 0 ≤ (ji11) then (if (ji11) < (l2_2.length : Int) then (some (!(Op.bytesLess (((rd_T63 l2_2 (ji11)).f0.f0).toList) a1.toList))) else (none)) else (none)) = some r := by first | (rw [hji11] at H; exact H) | (simp only [hji11] at H ⊢; exact H)
    (try rw [hji11] at c5b0)
    (try rw [hji11] at c5b1)
    have hji11w : (IntKind.i64.wrap ((l2_2.length : Int) - 1)) = ji11 := (i64_w _).trans hji11
    by_cases c12 : 0 ≤ (ji11)
    rotate_left
    · rw [if_neg c12] at H; exact absurd H (by simp)
    rw [if_pos c12] at H
    have c12b0 : decide (0 ≤ (ji11)) = true := decide_eq_true c12
    clear c12
    by_cases c13 : (ji11) < (l2_2.length : Int)
    rotate_left
    · rw [if_neg c13] at H; exact absurd H (by simp)
    rw [if_pos c13] at H
    have c13b0 : decide ((ji11) < (l2_2.length : Int)) = true := decide_eq_true c13
    clear c13
    obtain rfl := Option.some.inj H
    go_enter Try.func76, Try.ntmps76
    go_wp2_with (first | ((with_reducible refine gate_dst (N := 5) rfl ?_); refine box_event rfl (N := 5) rfl (cs := #[.int .i64 a2_0, .int .i64 a2_1, .slice A2_2 l2_2.length c2_2]) (t := 44) hr_ ?_; intro gb575 hg w14 hbox hb; have BK575 := q_ (hbox); have GW575 := q_ ((by rw [hg]; exact (below_size (be_ HB.out)) : w.heap.size ≤ gb575)); have GE575 := q_ ((by rw [hg]; exact (below_size (be_ HB.out)) : w.heap.size ≤ gb575)); replace HB := q_ (below_step (be_ HB.out) hb); clear hb hbox hg; obtain ⟨hcz15_0, hcz15_1, hcz15_2, hfz15_0, hfz15_1, hfz15_2⟩ := bx3_ BK575.out; have p576 : 0 ≤ ((ji11) : Int) := od_; have q576 : (ji11) < (l2_2.length : Int) := od_; obtain ⟨ad576, A576_2, c576_2, e576, hx576_0, hx576_1, hx576_2, hl576_2, hi576_2⟩ := at_T63 HR2_2.out (ji11) p576 q576; cases e576; replace hx576_0 := (HB.out.cell (World.block_lt_of_cell? w _ hx576_0)).trans hx576_0; replace hx576_1 := (HB.out.cell (World.block_lt_of_cell? w _ hx576_1)).trans hx576_1; replace hx576_2 := (HB.out.cell (World.block_lt_of_cell? w _ hx576_2)).trans hx576_2; have HR576_2 := Aside0.mk hi576_2; have HC576_2 := Aside0.mk hl576_2; clear hi576_2 hl576_2; replace p576 := eq_true p576; replace q576 := eq_true q576))
    go_ret
    exact ⟨by first | rfl | (simp [errW_none, errW_some] <;> rfl) | (simp only [← hji11]; first | rfl | (simp [errW_none, errW_some] <;> rfl)) | (simp [*, errW_none, errW_some] <;> rfl), bs_ HB.out GE575.out⟩
  · rw [if_neg c4] at H
    have c4b0 : (a2_1 == 0) = false := beq_eq_false_iff_ne.mpr c4
    have c4b1 : (a2_1 != 0) = true := bne_iff_ne.mpr c4
    by_cases c16 : 0 < (l2_2.length : Int)
    rotate_left
    · rw [if_neg c16] at H; exact absurd H (by simp)
    rw [if_pos c16] at H
    have c16b0 : decide (0 < (l2_2.length : Int)) = true := decide_eq_true c16
    have c16b1 : decide (0 < l2_2.length) = true := decide_eq_true (by omega)
    clear c16
    by_cases c17 : (Op.bytesLess (((rd_T63 l2_2 0).f0.f0).toList) a0.toList) = true
    · rw [if_pos c17] at H
      have c17b0 : (Op.bytesLess (((rd_T63 l2_2 0).f0.f0).toList) a0.toList) = true := c17
      clear c17
      by_cases c18 : (wrap64 (a2_1 + (wrap64 ((l2_2.length : Int) - 1)))) = (wrap64 (a2_0 - 1))
      · rw [if_pos c18] at H
        have c18b0 : ((wrap64 (a2_1 + (wrap64 ((l2_2.length : Int) - 1)))) == (wrap64 (a2_0 - 1))) = true := beq_iff_eq.mpr c18
        have c18b1 : ((wrap64 (a2_1 + (wrap64 ((l2_2.length : Int) - 1)))) != (wrap64 (a2_0 - 1))) = false := bne_eq_false_iff_eq.mpr c18
        clear c18
        obtain rfl := Option.some.inj H
        go_enter Try.func76, Try.ntmps76
        go_wp2_with (first | ((with_reducible refine gate_dst (N := 5) rfl ?_); refine box_event rfl (N := 5) rfl (cs := #[.int .i64 a2_0, .int .i64 a2_1, .slice A2_2 l2_2.length c2_2]) (t := 44) hr_ ?_; intro gb575 hg w19 hbox hb; have BK575 := q_ (hbox); have GW575 := q_ ((by rw [hg]; exact (below_size (be_ HB.out)) : w.heap.size ≤ gb575)); have GE575 := q_ ((by rw [hg]; exact (below_size (be_ HB.out)) : w.heap.size ≤ gb575)); replace HB := q_ (below_step (be_ HB.out) hb); clear hb hbox hg; obtain ⟨hcz20_0, hcz20_1, hcz20_2, hfz20_0, hfz20_1, hfz20_2⟩ := bx3_ BK575.out; have p577 : 0 ≤ (0 : Int) := (by omega); have q577 : 0 < (l2_2.length : Int) := od_; obtain ⟨ad577, A577_2, c577_2, e577, hx577_0, hx577_1, hx577_2, hl577_2, hi577_2⟩ := at_T63 HR2_2.out 0 p577 q577; cases e577; have qi577 : (0 < l2_2.length) = True := eq_true (by omega); (try rw [show ((0 : Int)).toNat = 0 from rfl] at hx577_0); (try rw [show 0 * 3 = 0 from rfl] at hx577_0); (try rw [Addr.add_zero'] at hx577_0); (try rw [show ((0 : Int)).toNat = 0 from rfl] at hx577_1); (try rw [show 0 * 3 = 0 from rfl] at hx577_1); (try rw [Addr.add_zero'] at hx577_1); (try rw [show ((0 : Int)).toNat = 0 from rfl] at hx577_2); (try rw [show 0 * 3 = 0 from rfl] at hx577_2); (try rw [Addr.add_zero'] at hx577_2); replace hx577_0 := (HB.out.cell (World.block_lt_of_cell? w _ hx577_0)).trans hx577_0; replace hx577_1 := (HB.out.cell (World.block_lt_of_cell? w _ hx577_1)).trans hx577_1; replace hx577_2 := (HB.out.cell (World.block_lt_of_cell? w _ hx577_2)).trans hx577_2; have HR577_2 := Aside0.mk hi577_2; have HC577_2 := Aside0.mk hl577_2; clear hi577_2 hl577_2; replace p577 := eq_true p577; replace q577 := eq_true q577))
        go_ret
        exact ⟨rf_, bs_ HB.out GE575.out⟩
      rw [if_neg c18] at H
      have c18b0 : ((wrap64 (a2_1 + (wrap64 ((l2_2.length : Int) - 1)))) == (wrap64 (a2_0 - 1))) = false := beq_eq_false_iff_ne.mpr c18
      have c18b1 : ((wrap64 (a2_1 + (wrap64 ((l2_2.length : Int) - 1)))) != (wrap64 (a2_0 - 1))) = true := bne_iff_ne.mpr c18
      by_cases c21 : a1.toList = ([] : List UInt8)
      · rw [if_pos c21] at H
        have c21b0 : (a1.toList == ([] : List UInt8)) = true := beq_iff_eq.mpr c21
        have c21b1 : (a1.toList != ([] : List UInt8)) = false := bne_eq_false_iff_eq.mpr c21
        clear c21
        obtain rfl := Option.some.inj H
        go_enter Try.func76, Try.ntmps76
        go_wp2_with (first | ((with_reducible refine gate_dst (N := 5) rfl ?_); refine box_event rfl (N := 5) rfl (cs := #[.int .i64 a2_0, .int .i64 a2_1, .slice A2_2 l2_2.length c2_2]) (t := 44) hr_ ?_; intro gb575 hg w22 hbox hb; have BK575 := q_ (hbox); have GW575 := q_ ((by rw [hg]; exact (below_size (be_ HB.out)) : w.heap.size ≤ gb575)); have GE575 := q_ ((by rw [hg]; exact (below_size (be_ HB.out)) : w.heap.size ≤ gb575)); replace HB := q_ (below_step (be_ HB.out) hb); clear hb hbox hg; obtain ⟨hcz23_0, hcz23_1, hcz23_2, hfz23_0, hfz23_1, hfz23_2⟩ := bx3_ BK575.out; have p577 : 0 ≤ (0 : Int) := (by omega); have q577 : 0 < (l2_2.length : Int) := od_; obtain ⟨ad577, A577_2, c577_2, e577, hx577_0, hx577_1, hx577_2, hl577_2, hi577_2⟩ := at_T63 HR2_2.out 0 p577 q577; cases e577; have qi577 : (0 < l2_2.length) = True := eq_true (by omega); (try rw [show ((0 : Int)).toNat = 0 from rfl] at hx577_0); (try rw [show 0 * 3 = 0 from rfl] at hx577_0); (try rw [Addr.add_zero'] at hx577_0); (try rw [show ((0 : Int)).toNat = 0 from rfl] at hx577_1); (try rw [show 0 * 3 = 0 from rfl] at hx577_1); (try rw [Addr.add_zero'] at hx577_1); (try rw [show ((0 : Int)).toNat = 0 from rfl] at hx577_2); (try rw [show 0 * 3 = 0 from rfl] at hx577_2); (try rw [Addr.add_zero'] at hx577_2); replace hx577_0 := (HB.out.cell (World.block_lt_of_cell? w _ hx577_0)).trans hx577_0; replace hx577_1 := (HB.out.cell (World.block_lt_of_cell? w _ hx577_1)).trans hx577_1; replace hx577_2 := (HB.out.cell (World.block_lt_of_cell? w _ hx577_2)).trans hx577_2; have HR577_2 := Aside0.mk hi577_2; have HC577_2 := Aside0.mk hl577_2; clear hi577_2 hl577_2; replace p577 := eq_true p577; replace q577 := eq_true q577))
        go_ret
        exact ⟨rf_, bs_ HB.out GE575.out⟩
      rw [if_neg c21] at H
      have c21b0 : (a1.toList == ([] : List UInt8)) = false := beq_eq_false_iff_ne.mpr c21
      have c21b1 : (a1.toList != ([] : List UInt8)) = true := bne_iff_ne.mpr c21
      obtain ⟨ji24, hji24⟩ : ∃ j_ : Int, (wrap64 ((l2_2.length : Int) - 1)) = j_ := ⟨_, rfl⟩
      (try clear hji11w); (try clear hji11)
      replace H : (if 0 ≤ (ji24) then (if (ji24) < (l2_2.length : Int) then (some (!(Op.bytesLess (((rd_T63 l2_2 (ji24)).f0.f0).toList) a1.toList))) else (none)) else (none)) = some r := by first | (rw [hji24] at H; exact H) | (simp only [hji24] at H ⊢; exact H)
      (try rw [hji24] at c18b0)
      (try rw [hji24] at c18b1)
      have hji24w : (IntKind.i64.wrap ((l2_2.length : Int) - 1)) = ji24 := (i64_w _).trans hji24
      by_cases c25 : 0 ≤ (ji24)
      rotate_left
      · rw [if_neg c25] at H; exact absurd H (by simp)
      rw [if_pos c25] at H
      have c25b0 : decide (0 ≤ (ji24)) = true := decide_eq_true c25
      clear c25
      by_cases c26 : (ji24) < (l2_2.length : Int)
      rotate_left
      · rw [if_neg c26] at H; exact absurd H (by simp)
      rw [if_pos c26] at H
      have c26b0 : decide ((ji24) < (l2_2.length : Int)) = true := decide_eq_true c26
      clear c26
      obtain rfl := Option.some.inj H
      go_enter Try.func76, Try.ntmps76
      go_wp2_with (first | ((with_reducible refine gate_dst (N := 5) rfl ?_); refine box_event rfl (N := 5) rfl (cs := #[.int .i64 a2_0, .int .i64 a2_1, .slice A2_2 l2_2.length c2_2]) (t := 44) hr_ ?_; intro gb575 hg w27 hbox hb; have BK575 := q_ (hbox); have GW575 := q_ ((by rw [hg]; exact (below_size (be_ HB.out)) : w.heap.size ≤ gb575)); have GE575 := q_ ((by rw [hg]; exact (below_size (be_ HB.out)) : w.heap.size ≤ gb575)); replace HB := q_ (below_step (be_ HB.out) hb); clear hb hbox hg; obtain ⟨hcz28_0, hcz28_1, hcz28_2, hfz28_0, hfz28_1, hfz28_2⟩ := bx3_ BK575.out; have p577 : 0 ≤ (0 : Int) := (by omega); have q577 : 0 < (l2_2.length : Int) := od_; obtain ⟨ad577, A577_2, c577_2, e577, hx577_0, hx577_1, hx577_2, hl577_2, hi577_2⟩ := at_T63 HR2_2.out 0 p577 q577; cases e577; have qi577 : (0 < l2_2.length) = True := eq_true (by omega); (try rw [show ((0 : Int)).toNat = 0 from rfl] at hx577_0); (try rw [show 0 * 3 = 0 from rfl] at hx577_0); (try rw [Addr.add_zero'] at hx577_0); (try rw [show ((0 : Int)).toNat = 0 from rfl] at hx577_1); (try rw [show 0 * 3 = 0 from rfl] at hx577_1); (try rw [Addr.add_zero'] at hx577_1); (try rw [show ((0 : Int)).toNat = 0 from rfl] at hx577_2); (try rw [show 0 * 3 = 0 from rfl] at hx577_2); (try rw [Addr.add_zero'] at hx577_2); replace hx577_0 := (HB.out.cell (World.block_lt_of_cell? w _ hx577_0)).trans hx577_0; replace hx577_1 := (HB.out.cell (World.block_lt_of_cell? w _ hx577_1)).trans hx577_1; replace hx577_2 := (HB.out.cell (World.block_lt_of_cell? w _ hx577_2)).trans hx577_2; have HR577_2 := Aside0.mk hi577_2; have HC577_2 := Aside0.mk hl577_2; clear hi577_2 hl577_2; replace p577 := eq_true p577; replace q577 := eq_true q577; have p578 : 0 ≤ ((ji24) : Int) := od_; have q578 : (ji24) < (l2_2.length : Int) := od_; obtain ⟨ad578, A578_2, c578_2, e578, hx578_0, hx578_1, hx578_2, hl578_2, hi578_2⟩ := at_T63 HR2_2.out (ji24) p578 q578; obtain rfl : ad577 = ad578 := (by injection e578); replace hx578_0 := (HB.out.cell (World.block_lt_of_cell? w _ hx578_0)).trans hx578_0; replace hx578_1 := (HB.out.cell (World.block_lt_of_cell? w _ hx578_1)).trans hx578_1; replace hx578_2 := (HB.out.cell (World.block_lt_of_cell? w _ hx578_2)).trans hx578_2; have HR578_2 := Aside0.mk hi578_2; have HC578_2 := Aside0.mk hl578_2; clear hi578_2 hl578_2; replace p578 := eq_true p578; replace q578 := eq_true q578))
      go_ret
      exact ⟨by first | rfl | (simp [errW_none, errW_some] <;> rfl) | (simp only [← hji24]; first | rfl | (simp [errW_none, errW_some] <;> rfl)) | (simp [*, errW_none, errW_some] <;> rfl), bs_ HB.out GE575.out⟩
    · rw [if_neg c17] at H
      have c17b0 : (Op.bytesLess (((rd_T63 l2_2 0).f0.f0).toList) a0.toList) = false := by simpa using c17
      clear c17
      obtain rfl := Option.some.inj H
      go_enter Try.func76, Try.ntmps76
      go_wp2_with (first | ((with_reducible refine gate_dst (N := 5) rfl ?_); refine box_event rfl (N := 5) rfl (cs := #[.int .i64 a2_0, .int .i64 a2_1, .slice A2_2 l2_2.length c2_2]) (t := 44) hr_ ?_; intro gb575 hg w29 hbox hb; have BK575 := q_ (hbox); have GW575 := q_ ((by rw [hg]; exact (below_size (be_ HB.out)) : w.heap.size ≤ gb575)); have GE575 := q_ ((by rw [hg]; exact (below_size (be_ HB.out)) : w.heap.size ≤ gb575)); replace HB := q_ (below_step (be_ HB.out) hb); clear hb hbox hg; obtain ⟨hcz30_0, hcz30_1, hcz30_2, hfz30_0, hfz30_1, hfz30_2⟩ := bx3_ BK575.out; have p577 : 0 ≤ (0 : Int) := (by omega); have q577 : 0 < (l2_2.length : Int) := od_; obtain ⟨ad577, A577_2, c577_2, e577, hx577_0, hx577_1, hx577_2, hl577_2, hi577_2⟩ := at_T63 HR2_2.out 0 p577 q577; cases e577; have qi577 : (0 < l2_2.length) = True := eq_true (by omega); (try rw [show ((0 : Int)).toNat = 0 from rfl] at hx577_0); (try rw [show 0 * 3 = 0 from rfl] at hx577_0); (try rw [Addr.add_zero'] at hx577_0); (try rw [show ((0 : Int)).toNat = 0 from rfl] at hx577_1); (try rw [show 0 * 3 = 0 from rfl] at hx577_1); (try rw [Addr.add_zero'] at hx577_1); (try rw [show ((0 : Int)).toNat = 0 from rfl] at hx577_2); (try rw [show 0 * 3 = 0 from rfl] at hx577_2); (try rw [Addr.add_zero'] at hx577_2); replace hx577_0 := (HB.out.cell (World.block_lt_of_cell? w _ hx577_0)).trans hx577_0; replace hx577_1 := (HB.out.cell (World.block_lt_of_cell? w _ hx577_1)).trans hx577_1; replace hx577_2 := (HB.out.cell (World.block_lt_of_cell? w _ hx577_2)).trans hx577_2; have HR577_2 := Aside0.mk hi577_2; have HC577_2 := Aside0.mk hl577_2; clear hi577_2 hl577_2; replace p577 := eq_true p577; replace q577 := eq_true q577))
      go_ret
      exact ⟨rf_, bs_ HB.out GE575.out⟩

/-! ###  impl_CheckBetween: function 20 -/
mutual
def impl_CheckBetween.j0 : Nat → ByteArray → ByteArray → Bool → Int → Int → List (S63) → Option ((List (S26)) × Bool)
  | 0, _, _, _, _, _, _ => none
  | k + 1, x1, x2, x64, x580000, x580001, x580002 => if x64 = true then (some (([] : List (S26)), false)) else (impl_CheckBetween.l0 k x1 x2 ([] : List (S26)) x580002 (x580002.length : Int) 0)
def impl_CheckBetween.l0 : Nat → ByteArray → ByteArray → List (S26) → List (S63) → Int → Int → Option ((List (S26)) × Bool)
  | 0, _, _, _, _, _, _ => none
  | k + 1, x1, x2, x10, x66, x67, x68 => if x68 < x67 then (if 0 ≤ x68 then (if x68 < (x66.length : Int) then (if x10.length < 4398046511104 then (impl_CheckBetween.l0 k x1 x2 (x10 ++ [(⟨(rd_T63 x66 x68).f0.f0, (rd_T63 x66 x68).f0.f1⟩ : S26)]) x66 x67 (wrap64 (x68 + 1))) else (none)) else (none)) else (none)) else ((impl_Between.f k x10 x1 x2).bind fun t591 => (some (t591, true)))
end
def impl_CheckBetween.f (k : Nat) (a0 : ByteArray) (a1 : ByteArray) (a2 : ByteArray) (a3_0 : Int) (a3_1 : Int) (l3_2 : List (S63)) : Option ((List (S26)) × Bool) := if a3_0 = 0 then (if (l3_2.length : Int) = 0 then (if a3_1 = 0 then ((impl_rootOf.f k ([] : List (S26))).bind fun t580 => (some (([] : List (S26)), (a0.toList == t580.toList)))) else (some (([] : List (S26)), false))) else (some (([] : List (S26)), false))) else ((impl_inRange.f a3_0 1 60).bind fun t581 => (if t581 = true then ((impl_inRange.f (l3_2.length : Int) 1 a3_0).bind fun t582 => (if t582 = true then ((impl_inRange.f a3_1 0 (wrap64 (a3_0 - 1))).bind fun t583 => (if t583 = true then ((impl_itemsOk.f k a0 a3_0 a3_1 l3_2).bind fun t584 => (if t584 = true then ((impl_reaches.f a1 a2 a3_0 a3_1 l3_2).bind fun t585 => (impl_CheckBetween.j0 k a1 a2 (!t585) a3_0 a3_1 l3_2)) else (impl_CheckBetween.j0 k a1 a2 true a3_0 a3_1 l3_2))) else (impl_CheckBetween.j0 k a1 a2 true a3_0 a3_1 l3_2))) else (impl_CheckBetween.j0 k a1 a2 true a3_0 a3_1 l3_2))) else (impl_CheckBetween.j0 k a1 a2 true a3_0 a3_1 l3_2)))
set_option maxHeartbeats 8000000 in
set_option maxRecDepth 100000 in
theorem impl_CheckBetween.calls (k : Nat) (a0 : ByteArray) (a1 : ByteArray) (a2 : ByteArray) (a3_0 : Int) (a3_1 : Int) (A3_2 : Option Addr) (c3_2 : Nat) (l3_2 : List (S63)) (r1 : List (S26)) (r2 : Bool) (w : World) (hr3_2 : Kd.C k63 w A3_2 l3_2.length l3_2) (hc3_2 : l3_2.length ≤ c3_2) (h : impl_CheckBetween.f k a0 a1 a2 a3_0 a3_1 l3_2 = some (r1, r2)) :
  Calls Try.prog 20 #[.string a0, .string a1, .string a2, .agg #[.int .i64 a3_0, .int .i64 a3_1, .slice A3_2 l3_2.length c3_2]] w fun e w' => ∃ v0_ : Value, e = .returned (.tuple #[v0_, .bool r2]) ∧ Kd.R k26 26 w' w.heap.size (fun _ => True) v0_ r1 ∧ Below w.heap.size w w' := by
  have hu44 := Try.underlying44
  have hu63 := Try.underlying63
  have hu26 := Try.underlying26
  have HR3_2 := Aside0.mk hr3_2
  have HC3_2 := Aside0.mk hc3_2
  clear hr3_2 hc3_2
  have HB := q_ (Below.refl w.heap.size w)
  have H : (if a3_0 = 0 then (if (l3_2.length : Int) = 0 then (if a3_1 = 0 then ((impl_rootOf.f k ([] : List (S26))).bind fun t580 => (some (([] : List (S26)), (a0.toList == t580.toList)))) else (some (([] : List (S26)), false))) else (some (([] : List (S26)), false))) else ((impl_inRange.f a3_0 1 60).bind fun t581 => (if t581 = true then ((impl_inRange.f (l3_2.length : Int) 1 a3_0).bind fun t582 => (if t582 = true then ((impl_inRange.f a3_1 0 (wrap64 (a3_0 - 1))).bind fun t583 => (if t583 = true then ((impl_itemsOk.f k a0 a3_0 a3_1 l3_2).bind fun t584 => (if t584 = true then ((impl_reaches.f a1 a2 a3_0 a3_1 l3_2).bind fun t585 => (impl_CheckBetween.j0 k a1 a2 (!t585) a3_0 a3_1 l3_2)) else (impl_CheckBetween.j0 k a1 a2 true a3_0 a3_1 l3_2))) else (impl_CheckBetween.j0 k a1 a2 true a3_0 a3_1 l3_2))) else (impl_CheckBetween.j0 k a1 a2 true a3_0 a3_1 l3_2))) else (impl_CheckBetween.j0 k a1 a2 true a3_0 a3_1 l3_2)))) = some (r1, r2) := h
  clear h
  by_cases c5 : a3_0 = 0
  · rw [if_pos c5] at H
    have c5b0 : (a3_0 == 0) = true := beq_iff_eq.mpr c5
    have c5b1 : (a3_0 != 0) = false := bne_eq_false_iff_eq.mpr c5
    clear c5
    by_cases c6 : (l3_2.length : Int) = 0
    rotate_left
    · rw [if_neg c6] at H
      have c6b0 : ((l3_2.length : Int) == 0) = false := beq_eq_false_iff_ne.mpr c6
      have c6b1 : ((l3_2.length : Int) != 0) = true := bne_iff_ne.mpr c6
      have c6b2 : ¬ (l3_2 = []) := fun h_ => c6 (by rw [h_]; rfl)
      simp only [Option.some.injEq, Prod.mk.injEq] at H
      obtain ⟨rfl, rfl⟩ := H
      go_enter Try.func20, Try.ntmps20
      go_wp2_with (first | ((with_reducible refine gate_dst (N := 7) rfl ?_); (try (refine gate_guard (by rfl) ?_; dsimp only)); refine box_event rfl (N := 7) rfl (cs := #[.int .i64 a3_0, .int .i64 a3_1, .slice A3_2 l3_2.length c3_2]) (t := 44) hr_ ?_; intro gb579 hg w14 hbox hb; have BK579 := q_ (hbox); have GW579 := q_ ((by rw [hg]; exact (below_size (be_ HB.out)) : w.heap.size ≤ gb579)); have GE579 := q_ ((by rw [hg]; exact (below_size (be_ HB.out)) : w.heap.size ≤ gb579)); replace HB := q_ (below_step (be_ HB.out) hb); clear hb hbox hg; obtain ⟨hcz15_0, hcz15_1, hcz15_2, hfz15_0, hfz15_1, hfz15_2⟩ := bx3_ BK579.out))
      go_ret2
      exact ⟨_, rf_, by first | exact Kd.R_nil _ _ _ _ _ | exact Kd.N_nil _ _ _ _ _ | exact Kd.V_nil _ _ _ _ _ | exact Kd.Q_nil _ _ _ _ _ | exact Kd.S_nil _ _ _ _ _, bs_ HB.out GE579.out⟩
    rw [if_pos c6] at H
    have c6b0 : ((l3_2.length : Int) == 0) = true := beq_iff_eq.mpr c6
    have c6b1 : ((l3_2.length : Int) != 0) = false := bne_eq_false_iff_eq.mpr c6
    clear c6
    by_cases c7 : a3_1 = 0
    rotate_left
    · rw [if_neg c7] at H
      have c7b0 : (a3_1 == 0) = false := beq_eq_false_iff_ne.mpr c7
      have c7b1 : (a3_1 != 0) = true := bne_iff_ne.mpr c7
      simp only [Option.some.injEq, Prod.mk.injEq] at H
      obtain ⟨rfl, rfl⟩ := H
      go_enter Try.func20, Try.ntmps20
      go_wp2_with (first | ((with_reducible refine gate_dst (N := 7) rfl ?_); (try (refine gate_guard (by rfl) ?_; dsimp only)); refine box_event rfl (N := 7) rfl (cs := #[.int .i64 a3_0, .int .i64 a3_1, .slice A3_2 l3_2.length c3_2]) (t := 44) hr_ ?_; intro gb579 hg w12 hbox hb; have BK579 := q_ (hbox); have GW579 := q_ ((by rw [hg]; exact (below_size (be_ HB.out)) : w.heap.size ≤ gb579)); have GE579 := q_ ((by rw [hg]; exact (below_size (be_ HB.out)) : w.heap.size ≤ gb579)); replace HB := q_ (below_step (be_ HB.out) hb); clear hb hbox hg; obtain ⟨hcz13_0, hcz13_1, hcz13_2, hfz13_0, hfz13_1, hfz13_2⟩ := bx3_ BK579.out))
      go_ret2
      exact ⟨_, rf_, by first | exact Kd.R_nil _ _ _ _ _ | exact Kd.N_nil _ _ _ _ _ | exact Kd.V_nil _ _ _ _ _ | exact Kd.Q_nil _ _ _ _ _ | exact Kd.S_nil _ _ _ _ _, bs_ HB.out GE579.out⟩
    rw [if_pos c7] at H
    have c7b0 : (a3_1 == 0) = true := beq_iff_eq.mpr c7
    have c7b1 : (a3_1 != 0) = false := bne_eq_false_iff_eq.mpr c7
    clear c7
    replace H := Option.bind_eq_some_iff.mp H
    obtain ⟨t580, A80, H⟩ := H
    have A8 := Aside0.mk A80
    clear A80
    simp only [Option.some.injEq, Prod.mk.injEq] at H
    obtain ⟨rfl, rfl⟩ := H
    go_enter Try.func20, Try.ntmps20
    go_wp2_with (first | ((with_reducible refine gate_dst (N := 7) rfl ?_); (try (refine gate_guard (by rfl) ?_; dsimp only)); refine box_event rfl (N := 7) rfl (cs := #[.int .i64 a3_0, .int .i64 a3_1, .slice A3_2 l3_2.length c3_2]) (t := 44) hr_ ?_; intro gb579 hg w9 hbox hb; have BK579 := q_ (hbox); have GW579 := q_ ((by rw [hg]; exact (below_size (be_ HB.out)) : w.heap.size ≤ gb579)); have GE579 := q_ ((by rw [hg]; exact (below_size (be_ HB.out)) : w.heap.size ≤ gb579)); replace HB := q_ (below_step (be_ HB.out) hb); clear hb hbox hg; obtain ⟨hcz10_0, hcz10_1, hcz10_2, hfz10_0, hfz10_1, hfz10_2⟩ := bx3_ BK579.out) | (go_at_call 69; (refine (impl_rootOf.calls k _ _ ([] : List (S26)) t580 _ ?side1 ?side2 A8.out).mono ?_); (case side1 => exact Kd.C_nil _ _); (case side2 => exact Nat.le_refl _); rintro e w11 ⟨rfl, hb⟩; replace BK579 := q_ (bb_ BK579.out hb); replace HB := q_ (below_step (bs_ HB.out GE579.out) hb); (try clear hb)))
    go_ret2
    exact ⟨_, rf_, by first | exact Kd.R_nil _ _ _ _ _ | exact Kd.N_nil _ _ _ _ _ | exact Kd.V_nil _ _ _ _ _ | exact Kd.Q_nil _ _ _ _ _ | exact Kd.S_nil _ _ _ _ _, bs_ HB.out GE579.out⟩
  · rw [if_neg c5] at H
    have c5b0 : (a3_0 == 0) = false := beq_eq_false_iff_ne.mpr c5
    have c5b1 : (a3_0 != 0) = true := bne_iff_ne.mpr c5
    have HC16 := Aside0.mk H
    clear H
    go_enter Try.func20, Try.ntmps20
    go_upto_region 3 with (first | ((with_reducible refine gate_dst (N := 7) rfl ?_); (try (refine gate_guard (by rfl) ?_; dsimp only)); refine box_event rfl (N := 7) rfl (cs := #[.int .i64 a3_0, .int .i64 a3_1, .slice A3_2 l3_2.length c3_2]) (t := 44) hr_ ?_; intro gb579 hg w17 hbox hb; have BK579 := q_ (hbox); have GW579 := q_ ((by rw [hg]; exact (below_size (be_ HB.out)) : w.heap.size ≤ gb579)); have GE579 := q_ ((by rw [hg]; exact (below_size (be_ HB.out)) : w.heap.size ≤ gb579)); replace HB := q_ (below_step (be_ HB.out) hb); clear hb hbox hg; obtain ⟨hcz18_0, hcz18_1, hcz18_2, hfz18_0, hfz18_1, hfz18_2⟩ := bx3_ BK579.out))
    (try simp only [Act.put, sa_, sz_, ss_])
    go_cut [64] (fun v64 wc => ∃ (kq : Nat) (x64_15 : Bool), v64 = .bool x64_15 ∧ Aside0 (impl_CheckBetween.j0 kq a1 a2 x64_15 a3_0 a3_1 l3_2 = some (r1, r2)) ∧ Aside0 (kq ≤ k) ∧ Aside0 (wc.heap[gb579]? = some (.cells #[.int .i64 a3_0, .int .i64 a3_1, (.slice A3_2 l3_2.length c3_2)] 44 (0, 0))) ∧ Aside0 (Below w.heap.size w wc))
    case first =>
     have H := HC16.out
     clear HC16
     replace H := Option.bind_eq_some_iff.mp H
     obtain ⟨t581, A190, H⟩ := H
     have A19 := Aside0.mk A190
     clear A190
     by_cases c20 : t581 = true
     rotate_left
     · replace c20 := Bool.eq_false_iff.mpr c20
       subst c20
       rw [if_neg (show ¬ (false = true) by decide)] at H
       have H' := Aside0.mk H
       clear H
       obtain ⟨hcz36_0, hcz36_1, hcz36_2, hfz36_0, hfz36_1, hfz36_2⟩ := bx3_ BK579.out
       go_wp2_with (first | ((with_reducible refine gate_callee (f := 66) rfl ?_); refine gl_ (some 32) Try.func66 #[.int .i64 a3_0, .int .i64 1, .int .i64 60] rfl al_ ?_; (with_reducible refine (impl_inRange.calls a3_0 1 60 false _ A19.out).mono ?_); rintro e w' ⟨rfl, ⟨nd, rfl⟩⟩; refine ⟨_, rfl, ?_⟩))
       go_meet
       case rel => exact ⟨_, (true), rs_, H', ⟨by first | omega | exact Nat.le_refl _⟩, ⟨by (with_reducible repeat (first | refine blk_drewN ?_ _ | refine blk_drew ?_ | refine blk_alloc ?_ _)); exact BK579.out⟩, ⟨bs_ HB.out GE579.out⟩⟩
     subst c20
     rw [if_pos rfl] at H
     replace H := Option.bind_eq_some_iff.mp H
     obtain ⟨t582, A210, H⟩ := H
     have A21 := Aside0.mk A210
     clear A210
     by_cases c22 : t582 = true
     rotate_left
     · replace c22 := Bool.eq_false_iff.mpr c22
       subst c22
       rw [if_neg (show ¬ (false = true) by decide)] at H
       have H' := Aside0.mk H
       clear H
       obtain ⟨hcz35_0, hcz35_1, hcz35_2, hfz35_0, hfz35_1, hfz35_2⟩ := bx3_ BK579.out
       go_wp2_with (first | ((with_reducible refine gate_callee (f := 66) rfl ?_); refine gl_ (some 32) Try.func66 #[.int .i64 a3_0, .int .i64 1, .int .i64 60] rfl al_ ?_; (with_reducible refine (impl_inRange.calls a3_0 1 60 true _ A19.out).mono ?_); rintro e w' ⟨rfl, ⟨nd, rfl⟩⟩; refine ⟨_, rfl, ?_⟩) | (go_at_call 66; (with_reducible refine (impl_inRange.calls (l3_2.length : Int) 1 a3_0 false _ A21.out).mono ?_); rintro e w' ⟨rfl, ⟨nd, rfl⟩⟩))
       go_meet
       case rel => exact ⟨_, (true), rs_, H', ⟨by first | omega | exact Nat.le_refl _⟩, ⟨by (with_reducible repeat (first | refine blk_drewN ?_ _ | refine blk_drew ?_ | refine blk_alloc ?_ _)); exact BK579.out⟩, ⟨bs_ HB.out GE579.out⟩⟩
     subst c22
     rw [if_pos rfl] at H
     replace H := Option.bind_eq_some_iff.mp H
     obtain ⟨t583, A230, H⟩ := H
     have A23 := Aside0.mk A230
     clear A230
     by_cases c24 : t583 = true
     rotate_left
     · replace c24 := Bool.eq_false_iff.mpr c24
       subst c24
       rw [if_neg (show ¬ (false = true) by decide)] at H
       have H' := Aside0.mk H
       clear H
       obtain ⟨hcz34_0, hcz34_1, hcz34_2, hfz34_0, hfz34_1, hfz34_2⟩ := bx3_ BK579.out
       go_wp2_with (first | ((with_reducible refine gate_callee (f := 66) rfl ?_); refine gl_ (some 32) Try.func66 #[.int .i64 a3_0, .int .i64 1, .int .i64 60] rfl al_ ?_; (with_reducible refine (impl_inRange.calls a3_0 1 60 true _ A19.out).mono ?_); rintro e w' ⟨rfl, ⟨nd, rfl⟩⟩; refine ⟨_, rfl, ?_⟩) | (go_at_call 66; (with_reducible refine (impl_inRange.calls (l3_2.length : Int) 1 a3_0 true _ A21.out).mono ?_); rintro e w' ⟨rfl, ⟨nd, rfl⟩⟩) | (go_at_call 66; (with_reducible refine (impl_inRange.calls a3_1 0 (wrap64 (a3_0 - 1)) false _ A23.out).mono ?_); rintro e w' ⟨rfl, ⟨nd, rfl⟩⟩))
       go_meet
       case rel => exact ⟨_, (true), rs_, H', ⟨by first | omega | exact Nat.le_refl _⟩, ⟨by (with_reducible repeat (first | refine blk_drewN ?_ _ | refine blk_drew ?_ | refine blk_alloc ?_ _)); exact BK579.out⟩, ⟨bs_ HB.out GE579.out⟩⟩
     subst c24
     rw [if_pos rfl] at H
     replace H := Option.bind_eq_some_iff.mp H
     obtain ⟨t584, A250, H⟩ := H
     have A25 := Aside0.mk A250
     clear A250
     by_cases c26 : t584 = true
     rotate_left
     · replace c26 := Bool.eq_false_iff.mpr c26
       subst c26
       rw [if_neg (show ¬ (false = true) by decide)] at H
       have H' := Aside0.mk H
       clear H
       obtain ⟨hcz32_0, hcz32_1, hcz32_2, hfz32_0, hfz32_1, hfz32_2⟩ := bx3_ BK579.out
       go_wp2_with (first | ((with_reducible refine gate_callee (f := 66) rfl ?_); refine gl_ (some 32) Try.func66 #[.int .i64 a3_0, .int .i64 1, .int .i64 60] rfl al_ ?_; (with_reducible refine (impl_inRange.calls a3_0 1 60 true _ A19.out).mono ?_); rintro e w' ⟨rfl, ⟨nd, rfl⟩⟩; refine ⟨_, rfl, ?_⟩) | (go_at_call 66; (with_reducible refine (impl_inRange.calls (l3_2.length : Int) 1 a3_0 true _ A21.out).mono ?_); rintro e w' ⟨rfl, ⟨nd, rfl⟩⟩) | (go_at_call 66; (with_reducible refine (impl_inRange.calls a3_1 0 (wrap64 (a3_0 - 1)) true _ A23.out).mono ?_); rintro e w' ⟨rfl, ⟨nd, rfl⟩⟩) | (go_at_call 75; (with_reducible refine (impl_itemsOk.calls k a0 a3_0 a3_1 _ _ l3_2 false _ ?side1 ?side2 A25.out).mono ?_); (case side1 => repeat (first | exact (Kd.C_below HR3_2.out (bs_ HB.out GE579.out)) | (with_reducible refine Kd.C_alloc ?_ _) | (with_reducible refine Kd.C_drewN ?_ _) | (with_reducible refine Kd.C_drew ?_))); (case side2 => exact HC3_2.out); rintro e w33 ⟨rfl, hb⟩; replace BK579 := q_ (bb_ BK579.out hb); replace HB := q_ (below_step (bs_ HB.out GE579.out) hb); (try clear hb)))
       go_meet
       case rel => exact ⟨_, (true), rs_, H', ⟨by first | omega | exact Nat.le_refl _⟩, ⟨by (with_reducible repeat (first | refine blk_drewN ?_ _ | refine blk_drew ?_ | refine blk_alloc ?_ _)); exact BK579.out⟩, ⟨bs_ HB.out GE579.out⟩⟩
     subst c26
     rw [if_pos rfl] at H
     replace H := Option.bind_eq_some_iff.mp H
     obtain ⟨t585, A270, H⟩ := H
     have A27 := Aside0.mk A270
     clear A270
     have H' := Aside0.mk H
     clear H
     obtain ⟨hcz28_0, hcz28_1, hcz28_2, hfz28_0, hfz28_1, hfz28_2⟩ := bx3_ BK579.out
     go_wp2_with (first | ((with_reducible refine gate_callee (f := 66) rfl ?_); refine gl_ (some 32) Try.func66 #[.int .i64 a3_0, .int .i64 1, .int .i64 60] rfl al_ ?_; (with_reducible refine (impl_inRange.calls a3_0 1 60 true _ A19.out).mono ?_); rintro e w' ⟨rfl, ⟨nd, rfl⟩⟩; refine ⟨_, rfl, ?_⟩) | (go_at_call 66; (with_reducible refine (impl_inRange.calls (l3_2.length : Int) 1 a3_0 true _ A21.out).mono ?_); rintro e w' ⟨rfl, ⟨nd, rfl⟩⟩) | (go_at_call 66; (with_reducible refine (impl_inRange.calls a3_1 0 (wrap64 (a3_0 - 1)) true _ A23.out).mono ?_); rintro e w' ⟨rfl, ⟨nd, rfl⟩⟩) | (go_at_call 75; (with_reducible refine (impl_itemsOk.calls k a0 a3_0 a3_1 _ _ l3_2 true _ ?side1 ?side2 A25.out).mono ?_); (case side1 => repeat (first | exact (Kd.C_below HR3_2.out (bs_ HB.out GE579.out)) | (with_reducible refine Kd.C_alloc ?_ _) | (with_reducible refine Kd.C_drewN ?_ _) | (with_reducible refine Kd.C_drew ?_))); (case side2 => exact HC3_2.out); rintro e w29 ⟨rfl, hb⟩; replace BK579 := q_ (bb_ BK579.out hb); replace HB := q_ (below_step (bs_ HB.out GE579.out) hb); (try clear hb); obtain ⟨hcz30_0, hcz30_1, hcz30_2, hfz30_0, hfz30_1, hfz30_2⟩ := bx3_ BK579.out) | (go_at_call 76; (with_reducible refine (impl_reaches.calls a1 a2 a3_0 a3_1 _ _ l3_2 t585 _ ?side1 ?side2 A27.out).mono ?_); (case side1 => exact kc_ (Kd.C_below HR3_2.out HB.out)); (case side2 => exact HC3_2.out); rintro e w31 ⟨rfl, hb⟩; replace BK579 := q_ (bb_ BK579.out hb); replace HB := q_ (below_step (bs_ HB.out GE579.out) hb); (try clear hb)))
     go_meet
     case rel => exact ⟨_, (!t585), rs_, H', ⟨by first | omega | exact Nat.le_refl _⟩, ⟨by (with_reducible repeat (first | refine blk_drewN ?_ _ | refine blk_drew ?_ | refine blk_alloc ?_ _)); exact BK579.out⟩, ⟨bs_ HB.out GE579.out⟩⟩
    case rest =>
     clear HC16
     try clear c2
     try clear p2
     try clear c3
     try clear c5
     try clear c5b0
     try clear c5b1
     try clear c6
     try clear c6b0
     try clear c6b1
     try clear c6b2
     try clear p6
     try clear c7
     try clear c7b0
     try clear c7b1
     try clear c20
     try clear c22
     try clear c24
     try clear c26
     try clear hcz10_0
     try clear hcz10_1
     try clear hcz10_2
     try clear hcz13_0
     try clear hcz13_1
     try clear hcz13_2
     try clear hcz15_0
     try clear hcz15_1
     try clear hcz15_2
     try clear hcz18_0
     try clear hcz18_1
     try clear hcz18_2
     try clear hcz28_0
     try clear hcz28_1
     try clear hcz28_2
     try clear hcz30_0
     try clear hcz30_1
     try clear hcz30_2
     try clear hcz32_0
     try clear hcz32_1
     try clear hcz32_2
     try clear hcz34_0
     try clear hcz34_1
     try clear hcz34_2
     try clear hcz35_0
     try clear hcz35_1
     try clear hcz35_2
     try clear hcz36_0
     try clear hcz36_1
     try clear hcz36_2
     try clear hfz10_0
     try clear hfz10_1
     try clear hfz10_2
     try clear hfz13_0
     try clear hfz13_1
     try clear hfz13_2
     try clear hfz15_0
     try clear hfz15_1
     try clear hfz15_2
     try clear hfz18_0
     try clear hfz18_1
     try clear hfz18_2
     try clear hfz28_0
     try clear hfz28_1
     try clear hfz28_2
     try clear hfz30_0
     try clear hfz30_1
     try clear hfz30_2
     try clear hfz32_0
     try clear hfz32_1
     try clear hfz32_2
     try clear hfz34_0
     try clear hfz34_1
     try clear hfz34_2
     try clear hfz35_0
     try clear hfz35_1
     try clear hfz35_2
     try clear hfz36_0
     try clear hfz36_1
     try clear hfz36_2
     obtain ⟨kq, x64_15, rfl, HA, HJ15, BK579, HB⟩ := hcut
     cases kq with
     | zero => exact absurd HA.out (by simp [impl_CheckBetween.j0])
     | succ kj15 =>
      have H := HA.out
      clear HA
      simp only [impl_CheckBetween.j0] at H
      by_cases c37 : x64_15 = true
      · subst c37
        rw [if_pos rfl] at H
        simp only [Option.some.injEq, Prod.mk.injEq] at H
        obtain ⟨rfl, rfl⟩ := H
        go_wp2
        go_ret2
        exact ⟨_, rf_, by first | exact Kd.R_nil _ _ _ _ _ | exact Kd.N_nil _ _ _ _ _ | exact Kd.V_nil _ _ _ _ _ | exact Kd.Q_nil _ _ _ _ _ | exact Kd.S_nil _ _ _ _ _, bs_ HB.out GE579.out⟩
      · replace c37 := Bool.eq_false_iff.mpr c37
        subst c37
        rw [if_neg (show ¬ (false = true) by decide)] at H
        have H' := Aside0.mk H
        clear H
        obtain ⟨hcz38_0, hcz38_1, hcz38_2, hfz38_0, hfz38_1, hfz38_2⟩ := bx3_ BK579.out
        go_wp2
        go_loopg [10, 68] kj15 (fun kq v10 v68 w' => ∃ (x10_2 : List (S26)) (x68_2 : Int), v68 = .int .i64 x68_2 ∧ Aside0 (impl_CheckBetween.l0 kq a1 a2 x10_2 l3_2 (l3_2.length : Int) x68_2 = some (r1, r2)) ∧ Aside0 (kq ≤ kj15) ∧ Aside0 (Kd.R k26 26 w' w.heap.size (fun _ => True) v10 x10_2) ∧ Aside0 (w'.heap[gb579]? = some (.cells #[.int .i64 a3_0, .int .i64 a3_1, (.slice A3_2 l3_2.length c3_2)] 44 (0, 0))) ∧ Aside0 (Below w.heap.size w w'))
        case atStart => exact ⟨(([] : List (S26))), (0), rs_, H', ⟨Nat.le_refl _⟩, ⟨by first | exact Kd.R_nil _ _ _ _ _ | exact Kd.N_nil _ _ _ _ _ | exact Kd.V_nil _ _ _ _ _ | exact Kd.Q_nil _ _ _ _ _ | exact Kd.S_nil _ _ _ _ _⟩, ⟨by (with_reducible repeat (first | refine blk_drewN ?_ _ | refine blk_drew ?_ | refine blk_alloc ?_ _)); exact BK579.out⟩, ⟨bs_ HB.out GE579.out⟩⟩
        case round =>
         clear H'
         try clear c2
         try clear p2
         try clear c3
         try clear c5
         try clear c5b0
         try clear c5b1
         try clear c6
         try clear c6b0
         try clear c6b1
         try clear c6b2
         try clear p6
         try clear c7
         try clear c7b0
         try clear c7b1
         try clear c20
         try clear c22
         try clear c24
         try clear c26
         try clear c37
         try clear hcz10_0
         try clear hcz10_1
         try clear hcz10_2
         try clear hcz13_0
         try clear hcz13_1
         try clear hcz13_2
         try clear hcz15_0
         try clear hcz15_1
         try clear hcz15_2
         try clear hcz18_0
         try clear hcz18_1
         try clear hcz18_2
         try clear hcz28_0
         try clear hcz28_1
         try clear hcz28_2
         try clear hcz30_0
         try clear hcz30_1
         try clear hcz30_2
         try clear hcz32_0
         try clear hcz32_1
         try clear hcz32_2
         try clear hcz34_0
         try clear hcz34_1
         try clear hcz34_2
         try clear hcz35_0
         try clear hcz35_1
         try clear hcz35_2
         try clear hcz36_0
         try clear hcz36_1
         try clear hcz36_2
         try clear hcz38_0
         try clear hcz38_1
         try clear hcz38_2
         try clear hfz10_0
         try clear hfz10_1
         try clear hfz10_2
         try clear hfz13_0
         try clear hfz13_1
         try clear hfz13_2
         try clear hfz15_0
         try clear hfz15_1
         try clear hfz15_2
         try clear hfz18_0
         try clear hfz18_1
         try clear hfz18_2
         try clear hfz28_0
         try clear hfz28_1
         try clear hfz28_2
         try clear hfz30_0
         try clear hfz30_1
         try clear hfz30_2
         try clear hfz32_0
         try clear hfz32_1
         try clear hfz32_2
         try clear hfz34_0
         try clear hfz34_1
         try clear hfz34_2
         try clear hfz35_0
         try clear hfz35_1
         try clear hfz35_2
         try clear hfz36_0
         try clear hfz36_1
         try clear hfz36_2
         try clear hfz38_0
         try clear hfz38_1
         try clear hfz38_2
         try clear p2
         try clear p6
         obtain ⟨x10_2, x68_2, rfl, HA, HK2, HO_10, BK579, HB⟩ := hrel
         cases gk with
         | zero => exact absurd HA.out (by simp [impl_CheckBetween.l0])
         | succ k2 =>
          have H := HA.out
          clear HA
          simp only [impl_CheckBetween.l0] at H
          by_cases c39 : x68_2 < (l3_2.length : Int)
          · rw [if_pos c39] at H
            have c39b0 : decide (x68_2 < (l3_2.length : Int)) = true := decide_eq_true c39
            clear c39
            by_cases c40 : 0 ≤ x68_2
            rotate_left
            · rw [if_neg c40] at H; exact absurd H (by simp)
            rw [if_pos c40] at H
            have c40b0 : decide (0 ≤ x68_2) = true := decide_eq_true c40
            clear c40
            by_cases c41 : x68_2 < (l3_2.length : Int)
            rotate_left
            · rw [if_neg c41] at H; exact absurd H (by simp)
            rw [if_pos c41] at H
            have c41b0 : decide (x68_2 < (l3_2.length : Int)) = true := decide_eq_true c41
            clear c41
            by_cases c42 : x10_2.length < 4398046511104
            rotate_left
            · rw [if_neg c42] at H; exact absurd H (by simp)
            rw [if_pos c42] at H
            have LMc42 := Aside0.mk c42
            clear c42
            obtain ⟨y588, hy588⟩ : ∃ y_ : List (S26), y_ = (x10_2 ++ [(⟨(rd_T63 l3_2 x68_2).f0.f0, (rd_T63 l3_2 x68_2).f0.f1⟩ : S26)]) := ⟨_, rfl⟩
            replace H : (impl_CheckBetween.l0 k2 a1 a2 y588 l3_2 (l3_2.length : Int) (wrap64 (x68_2 + 1))) = some (r1, r2) := ry_ hy588 H
            have Ny588 := Aside0.mk hy588
            clear hy588
            have H' := Aside0.mk H
            clear H
            have p586 : 0 ≤ (x68_2 : Int) := od_
            have q586 : x68_2 < (l3_2.length : Int) := od_
            obtain ⟨ad586, A586_2, c586_2, e586, hx586_0, hx586_1, hx586_2, hl586_2, hi586_2⟩ := at_T63 HR3_2.out x68_2 p586 q586
            cases e586
            replace hx586_0 := (HB.out.cell (World.block_lt_of_cell? w _ hx586_0)).trans hx586_0
            replace hx586_1 := (HB.out.cell (World.block_lt_of_cell? w _ hx586_1)).trans hx586_1
            replace hx586_2 := (HB.out.cell (World.block_lt_of_cell? w _ hx586_2)).trans hx586_2
            have HR586_2 := Aside0.mk hi586_2
            have HC586_2 := Aside0.mk hl586_2
            clear hi586_2 hl586_2
            replace p586 := eq_true p586
            replace q586 := eq_true q586
            go_wp2_with (first | ((with_reducible refine gate_dst (N := 12) rfl ?_); (try (refine gate_guard (by rfl) ?_; dsimp only)); refine box_event rfl (N := 12) rfl (cs := #[.string (⟨#[]⟩ : ByteArray), .string (⟨#[]⟩ : ByteArray), .slice none 0 0]) (t := 63) hr_ ?_; intro gb587 hg w43 hbox hb; replace HO_10 := q_ (Kd.R_below (kr_ HO_10.out) hb); have BK587 := q_ (hbox); have GW587 := q_ ((by rw [hg]; exact (below_size (bs_ HB.out GE579.out)) : w.heap.size ≤ gb587)); have GE587 := q_ ((by rw [hg]; exact (below_size (bs_ HB.out GE579.out)) : w.heap.size ≤ gb587)); replace HB := q_ (below_step (bs_ HB.out GE579.out) hb); have NB579_587 := q_ ((by rw [hg]; exact Nat.ne_of_lt (blk_lt (g := gb579) (o := .cells #[.int .i64 a3_0, .int .i64 a3_1, .slice (some ad586) l3_2.length c3_2] 44 (0, 0)) (bk_ BK579.out)) : gb579 ≠ gb587)); have NB587_579 := q_ ((by rw [hg]; exact Nat.ne_of_gt (blk_lt (g := gb579) (o := .cells #[.int .i64 a3_0, .int .i64 a3_1, .slice (some ad586) l3_2.length c3_2] 44 (0, 0)) (bk_ BK579.out)) : gb587 ≠ gb579)); replace BK579 := q_ (bb_ BK579.out hb); clear hb hbox hg; have hnb44 := NB587_579.out; have hnc44 := NB579_587.out; obtain ⟨hcz45_0, hcz45_1, hcz45_2, hfz45_0, hfz45_1, hfz45_2⟩ := bx3_ BK587.out) | ((with_reducible refine gate_builtin (b := .append) (xs := #[.tmp 72, .tmp 75]) rfl ?_); (try (refine gate_guard (by rfl) ?_; dsimp only)); at_builtin; refine Kd.R_append k26 (w0 := w) w.heap.size rfl (.tmp 72) (.tmp 75) 24 26 (.agg #[(.string ⟨#[]⟩), (.string ⟨#[]⟩)]) 32 rfl Try.underlying24 info26 rfl (by decide) (by omega) u10 x10_2 (⟨(rd_T63 l3_2 x68_2).f0.f0, (rd_T63 l3_2 x68_2).f0.f1⟩ : S26) [.string ((rd_T63 l3_2 x68_2).f0.f0), .string ((rd_T63 l3_2 x68_2).f0.f1)] (fun _ => True) (fun _ => False) rfl (by first | (go_simp; done) | (go_simp; rfl)) ?aP (fun _ hk => hk.elim) ?aF ?aO ?aB ?aS ?aL ?_; (case aP => exact k26_mkM _ _ _ (⟨(rd_T63 l3_2 x68_2).f0.f0, (rd_T63 l3_2 x68_2).f0.f1⟩ : S26)); (case aB => exact (b2_ HB.out GE579.out GE587.out)); (case aF => exact (fun _ _ => trivial)); (case aO => exact (by (with_reducible repeat (first | apply Kd.R_alloc | apply Kd.R_drewN | apply Kd.R_drew)); exact Kd.R_mono (Kd.R_far (p := ⟨gb587, 2, none⟩) (Kd.R_far (p := ⟨gb587, 1, none⟩) (Kd.R_far (p := ⟨gb587, 0, none⟩) (Kd.R_types HO_10.out BK587.out (by decide)) (fun _ hk => hk.2) (.string ((rd_T63 l3_2 x68_2).f0.f0))) (fun _ hk => hk.2) (.string ((rd_T63 l3_2 x68_2).f0.f1))) (fun _ hk => hk.2) (.slice A586_2 ((rd_T63 l3_2 x68_2).f1).length c586_2)) (fun _ hk => trivial))); (case aS => exact (below_size (b2_ HB.out GE579.out GE587.out))); (case aL => have := LMc42.out; omega); intro v589 w46 ho hb hg hat; rw [← Ny588.out] at ho; have n0_ := q_ (blk_grown (g := gb579) (o := .cells #[.int .i64 a3_0, .int .i64 a3_1, .slice (some ad586) l3_2.length c3_2] 44 (0, 0)) (by (with_reducible repeat (first | refine blk_drewN ?_ _ | refine blk_drew ?_ | refine blk_alloc ?_ _)); refine blk_far ?_ NB579_587.out _; (with_reducible repeat (first | refine blk_drewN ?_ _ | refine blk_drew ?_ | refine blk_alloc ?_ _)); refine blk_far ?_ NB579_587.out _; (with_reducible repeat (first | refine blk_drewN ?_ _ | refine blk_drew ?_ | refine blk_alloc ?_ _)); refine blk_far ?_ NB579_587.out _; (with_reducible repeat (first | refine blk_drewN ?_ _ | refine blk_drew ?_ | refine blk_alloc ?_ _)); exact BK579.out) hg (Kd.R_ne HO_10.out BK579.out (by decide))); have n1_ := q_ (blk_grown (g := gb587) (o := .cells #[.string ((rd_T63 l3_2 x68_2).f0.f0), .string ((rd_T63 l3_2 x68_2).f0.f1), .slice A586_2 ((rd_T63 l3_2 x68_2).f1).length c586_2] 63 (0, 0)) (by (with_reducible repeat (first | refine blk_drewN ?_ _ | refine blk_drew ?_ | refine blk_alloc ?_ _)); refine blk_put (cs := #[.string ((rd_T63 l3_2 x68_2).f0.f0), .string ((rd_T63 l3_2 x68_2).f0.f1), .slice none 0 0]) ?_ 2 _ rfl; (with_reducible repeat (first | refine blk_drewN ?_ _ | refine blk_drew ?_ | refine blk_alloc ?_ _)); refine blk_put (cs := #[.string ((rd_T63 l3_2 x68_2).f0.f0), .string (⟨#[]⟩ : ByteArray), .slice none 0 0]) ?_ 1 _ rfl; (with_reducible repeat (first | refine blk_drewN ?_ _ | refine blk_drew ?_ | refine blk_alloc ?_ _)); refine blk_put (cs := #[.string (⟨#[]⟩ : ByteArray), .string (⟨#[]⟩ : ByteArray), .slice none 0 0]) ?_ 0 _ rfl; (with_reducible repeat (first | refine blk_drewN ?_ _ | refine blk_drew ?_ | refine blk_alloc ?_ _)); exact BK587.out) hg (Kd.R_ne HO_10.out BK587.out (by decide))); have n2_ := q_ (hb); have n3_ := q_ (ho); clear BK579; clear BK587; clear HB; clear HO_10; have BK579 := n0_; have BK587 := n1_; have HB := n2_; have HO590 := n3_; clear n0_ n1_ n2_ n3_; clear ho hb hg hat))
            go_roundg k2
            case measure => have := HJ15.out; have := HK2.out; omega
            case rel => exact ⟨(y588), (wrap64 (x68_2 + 1)), rs_, H', ⟨by have := HJ15.out; have := HK2.out; omega⟩, ⟨by (with_reducible repeat (first | apply Kd.R_alloc | apply Kd.R_drewN | apply Kd.R_drew)); exact HO590.out⟩, ⟨by (with_reducible repeat (first | refine blk_drewN ?_ _ | refine blk_drew ?_ | refine blk_alloc ?_ _)); exact BK579.out⟩, ⟨b2_ HB.out GE579.out GE587.out⟩⟩
          · rw [if_neg c39] at H
            have c39b0 : decide (x68_2 < (l3_2.length : Int)) = false := decide_eq_false c39
            clear c39
            replace H := Option.bind_eq_some_iff.mp H
            obtain ⟨t591, A470, H⟩ := H
            have A47 := Aside0.mk A470
            clear A470
            simp only [Option.some.injEq, Prod.mk.injEq] at H
            obtain ⟨rfl, rfl⟩ := H
            obtain ⟨Ao48, co48, eo48⟩ := Kd.R_slice HO_10.out
            subst eo48
            go_wp2_with (first | ((with_reducible refine gate_callee (f := 27) rfl ?_); refine gl_ (some 81) Try.func27 #[.slice Ao48 x10_2.length co48, .string a1, .string a2] rfl al_ ?_; (with_reducible refine (impl_Between.calls k2 _ _ x10_2 a1 a2 t591 _ ?side1 ?side2 A47.out).mono ?_); (case side1 => exact kc_ (Kd.R_reads' HO_10.out).2.2); (case side2 => exact (Kd.R_reads' HO_10.out).2.1); rintro e w49 ⟨v592, rfl, ho0, hb⟩; refine ⟨_, rfl, ?_⟩; have HO593 := q_ (Kd.R_lower (Kd.R_new' ho0 (Kd.R_lt (kr_ HO_10.out))) (below_size (bs_ HB.out GE579.out))); replace HO_10 := q_ (Kd.R_elder' (kr_ HO_10.out) (Kd.R_base ho0) hb); replace BK579 := q_ (bb_ BK579.out hb); replace HB := q_ (below_step (bs_ HB.out GE579.out) hb); (try clear hb); (try clear ho0)))
            go_ret2
            exact ⟨_, rf_, by (with_reducible repeat (first | apply Kd.R_alloc | apply Kd.R_drewN | apply Kd.R_drew)); exact Kd.R_mono HO593.out (fun _ hk => trivial), bs_ HB.out GE579.out⟩

/-! ###  laws_eqPair: function 77 -/
def laws_eqPair.f (a0_0 : ByteArray) (a0_1 : ByteArray) (a1_0 : ByteArray) (a1_1 : ByteArray) : Option (Bool) := if a0_0.toList = a1_0.toList then (if a0_1.toList = a1_1.toList then (some true) else (some false)) else (some false)
set_option maxHeartbeats 8000000 in
set_option maxRecDepth 100000 in
theorem laws_eqPair.calls (a0_0 : ByteArray) (a0_1 : ByteArray) (a1_0 : ByteArray) (a1_1 : ByteArray) (r : Bool) (w : World) (h : laws_eqPair.f a0_0 a0_1 a1_0 a1_1 = some r) :
  Calls Try.prog 77 #[.agg #[.string a0_0, .string a0_1], .agg #[.string a1_0, .string a1_1]] w fun e w' => e = .returned (.bool r) ∧ Below w.heap.size w w' := by
  have hu26 := Try.underlying26
  have HB := q_ (Below.refl w.heap.size w)
  have H : (if a0_0.toList = a1_0.toList then (if a0_1.toList = a1_1.toList then (some true) else (some false)) else (some false)) = some r := h
  clear h
  by_cases c3 : a0_0.toList = a1_0.toList
  · rw [if_pos c3] at H
    have c3b0 : (a0_0.toList == a1_0.toList) = true := beq_iff_eq.mpr c3
    have c3b1 : (a0_0.toList != a1_0.toList) = false := bne_eq_false_iff_eq.mpr c3
    clear c3
    by_cases c4 : a0_1.toList = a1_1.toList
    rotate_left
    · rw [if_neg c4] at H
      have c4b0 : (a0_1.toList == a1_1.toList) = false := beq_eq_false_iff_ne.mpr c4
      have c4b1 : (a0_1.toList != a1_1.toList) = true := bne_iff_ne.mpr c4
      obtain rfl := Option.some.inj H
      go_enter Try.func77, Try.ntmps77
      go_wp2_with (first | ((with_reducible refine gate_dst (N := 2) rfl ?_); refine box_event rfl (N := 2) rfl (cs := #[.string a0_0, .string a0_1]) (t := 26) hr_ ?_; intro gb594 hg w10 hbox hb; have BK594 := q_ (hbox); have GW594 := q_ ((by rw [hg]; exact (below_size (be_ HB.out)) : w.heap.size ≤ gb594)); have GE594 := q_ ((by rw [hg]; exact (below_size (be_ HB.out)) : w.heap.size ≤ gb594)); replace HB := q_ (below_step (be_ HB.out) hb); clear hb hbox hg) | ((with_reducible refine gate_dst (N := 3) rfl ?_); refine box_event rfl (N := 3) rfl (cs := #[.string a1_0, .string a1_1]) (t := 26) hr_ ?_; intro gb595 hg w11 hbox hb; have BK595 := q_ (hbox); have GW595 := q_ ((by rw [hg]; exact (below_size (bs_ HB.out GE594.out)) : w.heap.size ≤ gb595)); have GE595 := q_ ((by rw [hg]; exact (below_size (bs_ HB.out GE594.out)) : w.heap.size ≤ gb595)); replace HB := q_ (below_step (bs_ HB.out GE594.out) hb); have NB594_595 := q_ ((by rw [hg]; exact Nat.ne_of_lt (blk_lt (g := gb594) (o := .cells #[.string a0_0, .string a0_1] 26 (0, 0)) (bk_ BK594.out)) : gb594 ≠ gb595)); have NB595_594 := q_ ((by rw [hg]; exact Nat.ne_of_gt (blk_lt (g := gb594) (o := .cells #[.string a0_0, .string a0_1] 26 (0, 0)) (bk_ BK594.out)) : gb595 ≠ gb594)); replace BK594 := q_ (bb_ BK594.out hb); clear hb hbox hg; have hnb12 := NB594_595.out; have hnc12 := NB595_594.out; obtain ⟨hcz13_0, hcz13_1, hfz13_0, hfz13_1⟩ := bx2_ BK594.out; obtain ⟨hcz14_0, hcz14_1, hfz14_0, hfz14_1⟩ := bx2_ BK595.out))
      go_ret
      exact ⟨rf_, b2_ HB.out GE594.out GE595.out⟩
    rw [if_pos c4] at H
    have c4b0 : (a0_1.toList == a1_1.toList) = true := beq_iff_eq.mpr c4
    have c4b1 : (a0_1.toList != a1_1.toList) = false := bne_eq_false_iff_eq.mpr c4
    clear c4
    obtain rfl := Option.some.inj H
    go_enter Try.func77, Try.ntmps77
    go_wp2_with (first | ((with_reducible refine gate_dst (N := 2) rfl ?_); refine box_event rfl (N := 2) rfl (cs := #[.string a0_0, .string a0_1]) (t := 26) hr_ ?_; intro gb594 hg w5 hbox hb; have BK594 := q_ (hbox); have GW594 := q_ ((by rw [hg]; exact (below_size (be_ HB.out)) : w.heap.size ≤ gb594)); have GE594 := q_ ((by rw [hg]; exact (below_size (be_ HB.out)) : w.heap.size ≤ gb594)); replace HB := q_ (below_step (be_ HB.out) hb); clear hb hbox hg) | ((with_reducible refine gate_dst (N := 3) rfl ?_); refine box_event rfl (N := 3) rfl (cs := #[.string a1_0, .string a1_1]) (t := 26) hr_ ?_; intro gb595 hg w6 hbox hb; have BK595 := q_ (hbox); have GW595 := q_ ((by rw [hg]; exact (below_size (bs_ HB.out GE594.out)) : w.heap.size ≤ gb595)); have GE595 := q_ ((by rw [hg]; exact (below_size (bs_ HB.out GE594.out)) : w.heap.size ≤ gb595)); replace HB := q_ (below_step (bs_ HB.out GE594.out) hb); have NB594_595 := q_ ((by rw [hg]; exact Nat.ne_of_lt (blk_lt (g := gb594) (o := .cells #[.string a0_0, .string a0_1] 26 (0, 0)) (bk_ BK594.out)) : gb594 ≠ gb595)); have NB595_594 := q_ ((by rw [hg]; exact Nat.ne_of_gt (blk_lt (g := gb594) (o := .cells #[.string a0_0, .string a0_1] 26 (0, 0)) (bk_ BK594.out)) : gb595 ≠ gb594)); replace BK594 := q_ (bb_ BK594.out hb); clear hb hbox hg; have hnb7 := NB594_595.out; have hnc7 := NB595_594.out; obtain ⟨hcz8_0, hcz8_1, hfz8_0, hfz8_1⟩ := bx2_ BK594.out; obtain ⟨hcz9_0, hcz9_1, hfz9_0, hfz9_1⟩ := bx2_ BK595.out))
    go_ret
    exact ⟨rf_, b2_ HB.out GE594.out GE595.out⟩
  · rw [if_neg c3] at H
    have c3b0 : (a0_0.toList == a1_0.toList) = false := beq_eq_false_iff_ne.mpr c3
    have c3b1 : (a0_0.toList != a1_0.toList) = true := bne_iff_ne.mpr c3
    obtain rfl := Option.some.inj H
    go_enter Try.func77, Try.ntmps77
    go_wp2_with (first | ((with_reducible refine gate_dst (N := 2) rfl ?_); refine box_event rfl (N := 2) rfl (cs := #[.string a0_0, .string a0_1]) (t := 26) hr_ ?_; intro gb594 hg w15 hbox hb; have BK594 := q_ (hbox); have GW594 := q_ ((by rw [hg]; exact (below_size (be_ HB.out)) : w.heap.size ≤ gb594)); have GE594 := q_ ((by rw [hg]; exact (below_size (be_ HB.out)) : w.heap.size ≤ gb594)); replace HB := q_ (below_step (be_ HB.out) hb); clear hb hbox hg) | ((with_reducible refine gate_dst (N := 3) rfl ?_); refine box_event rfl (N := 3) rfl (cs := #[.string a1_0, .string a1_1]) (t := 26) hr_ ?_; intro gb595 hg w16 hbox hb; have BK595 := q_ (hbox); have GW595 := q_ ((by rw [hg]; exact (below_size (bs_ HB.out GE594.out)) : w.heap.size ≤ gb595)); have GE595 := q_ ((by rw [hg]; exact (below_size (bs_ HB.out GE594.out)) : w.heap.size ≤ gb595)); replace HB := q_ (below_step (bs_ HB.out GE594.out) hb); have NB594_595 := q_ ((by rw [hg]; exact Nat.ne_of_lt (blk_lt (g := gb594) (o := .cells #[.string a0_0, .string a0_1] 26 (0, 0)) (bk_ BK594.out)) : gb594 ≠ gb595)); have NB595_594 := q_ ((by rw [hg]; exact Nat.ne_of_gt (blk_lt (g := gb594) (o := .cells #[.string a0_0, .string a0_1] 26 (0, 0)) (bk_ BK594.out)) : gb595 ≠ gb594)); replace BK594 := q_ (bb_ BK594.out hb); clear hb hbox hg; have hnb17 := NB594_595.out; have hnc17 := NB595_594.out; obtain ⟨hcz18_0, hcz18_1, hfz18_0, hfz18_1⟩ := bx2_ BK594.out; obtain ⟨hcz19_0, hcz19_1, hfz19_0, hfz19_1⟩ := bx2_ BK595.out))
    go_ret
    exact ⟨rf_, b2_ HB.out GE594.out GE595.out⟩

/-! ###  laws_eqPairS: function 21 -/
def laws_eqPairS.l0 : Nat → List (S26) → List (S26) → Int → Option (Bool)
  | 0, _, _, _ => none
  | k + 1, x0, x1, x5 => if x5 < (x0.length : Int) then (if 0 ≤ x5 then (if x5 < (x1.length : Int) then ((laws_eqPair.f ((rd_T26 x0 x5).f0) ((rd_T26 x0 x5).f1) ((rd_T26 x1 x5).f0) ((rd_T26 x1 x5).f1)).bind fun t598 => (if t598 = true then (laws_eqPairS.l0 k x0 x1 (wrap64 (x5 + 1))) else (some false))) else (none)) else (none)) else (some true)
def laws_eqPairS.f (k : Nat) (l0 : List (S26)) (l1 : List (S26)) : Option (Bool) := if (l0.length : Int) = (l1.length : Int) then (laws_eqPairS.l0 k l0 l1 0) else (some false)
def laws_eqPairS.T6 : Bool × List (List Nat × List Nat) := (true, [([], []), ([], []), ([0, 1], [0, 1]), ([2], [2]), ([], []), ([], []), ([4, 5], [4, 5]), ([6], [6]), ([3, 7], [3, 7]), ([8], [8])])
def laws_eqPairS.B6 : List Nat := [0, 0, 3, 7, 0, 0, 48, 112, 255, 511]
theorem laws_eqPairS.tab6 : rtab .any (opsOf Try.f21 6) = laws_eqPairS.T6 := by kernel_rfl
theorem laws_eqPairS.bits6 : waitsOk laws_eqPairS.T6.2 laws_eqPairS.B6 = true := by kernel_rfl
set_option maxHeartbeats 8000000 in
set_option maxRecDepth 100000 in
theorem laws_eqPairS.calls (k : Nat) (A0 : Option Addr) (c0 : Nat) (l0 : List (S26)) (A1 : Option Addr) (c1 : Nat) (l1 : List (S26)) (r : Bool) (w : World) (hr0 : Kd.C k26 w A0 l0.length l0) (hc0 : l0.length ≤ c0) (hr1 : Kd.C k26 w A1 l1.length l1) (hc1 : l1.length ≤ c1) (h : laws_eqPairS.f k l0 l1 = some r) :
  Calls Try.prog 21 #[.slice A0 l0.length c0, .slice A1 l1.length c1] w fun e w' => e = .returned (.bool r) ∧ Below w.heap.size w w' := by
  have hu26 := Try.underlying26
  have HR0 := Aside0.mk hr0
  have HC0 := Aside0.mk hc0
  clear hr0 hc0
  have HR1 := Aside0.mk hr1
  have HC1 := Aside0.mk hc1
  clear hr1 hc1
  have HB := q_ (Below.refl w.heap.size w)
  have H : (if (l0.length : Int) = (l1.length : Int) then (laws_eqPairS.l0 k l0 l1 0) else (some false)) = some r := h
  clear h
  by_cases c3 : (l0.length : Int) = (l1.length : Int)
  · rw [if_pos c3] at H
    have c3b0 : ((l0.length : Int) == (l1.length : Int)) = true := beq_iff_eq.mpr c3
    have c3b1 : ((l0.length : Int) != (l1.length : Int)) = false := bne_eq_false_iff_eq.mpr c3
    have c3b2 : (l0.length == l1.length) = true := by first | simpa using c3 | (simp at c3 ⊢; omega)
    clear c3
    have H' := Aside0.mk H
    clear H
    go_enter Try.func21, Try.ntmps21
    go_wp2
    go_loopg [5] k (fun kq v5 w' => ∃ (x5_1 : Int), v5 = .int .i64 x5_1 ∧ Aside0 (laws_eqPairS.l0 kq l0 l1 x5_1 = some r) ∧ Aside0 (kq ≤ k) ∧ Aside0 (Below w.heap.size w w'))
    case atStart => exact ⟨(0), rs_, H', ⟨Nat.le_refl _⟩, ⟨be_ HB.out⟩⟩
    case round =>
     clear H'
     try clear c1
     try clear c2
     try clear p2
     try clear c3
     try clear c3b0
     try clear c3b1
     try clear c3b2
     obtain ⟨x5_1, rfl, HA, HK1, HB⟩ := hrel
     cases gk with
     | zero => exact absurd HA.out (by simp [laws_eqPairS.l0])
     | succ k1 =>
      have H := HA.out
      clear HA
      simp only [laws_eqPairS.l0] at H
      by_cases c4 : x5_1 < (l0.length : Int)
      rotate_left
      · rw [if_neg c4] at H
        have c4b0 : decide (x5_1 < (l0.length : Int)) = false := decide_eq_false c4
        clear c4
        obtain rfl := Option.some.inj H
        go_wp2
        go_ret
        exact ⟨rf_, be_ HB.out⟩
      rw [if_pos c4] at H
      have c4b0 : decide (x5_1 < (l0.length : Int)) = true := decide_eq_true c4
      clear c4
      by_cases c5 : 0 ≤ x5_1
      rotate_left
      · rw [if_neg c5] at H; exact absurd H (by simp)
      rw [if_pos c5] at H
      have c5b0 : decide (0 ≤ x5_1) = true := decide_eq_true c5
      clear c5
      by_cases c6 : x5_1 < (l1.length : Int)
      rotate_left
      · rw [if_neg c6] at H; exact absurd H (by simp)
      rw [if_pos c6] at H
      have c6b0 : decide (x5_1 < (l1.length : Int)) = true := decide_eq_true c6
      clear c6
      replace H := Option.bind_eq_some_iff.mp H
      obtain ⟨t598, A70, H⟩ := H
      have A7 := Aside0.mk A70
      clear A70
      by_cases c8 : t598 = true
      rotate_left
      · replace c8 := Bool.eq_false_iff.mpr c8
        subst c8
        rw [if_neg (show ¬ (false = true) by decide)] at H
        obtain rfl := Option.some.inj H
        try go_wp2
        replace HB := q_ (below_drew1 HB.out)
        have p596 : 0 ≤ (x5_1 : Int) := od_
        have q596 : x5_1 < (l0.length : Int) := od_
        obtain ⟨ad596, e596, hx596_0, hx596_1⟩ := at_T26 HR0.out x5_1 p596 q596
        have hw596_1 := hx596_1
        have hw596_0 := hx596_0
        cases e596
        replace hx596_0 := (HB.out.cell (World.block_lt_of_cell? w _ hx596_0)).trans hx596_0
        replace hx596_1 := (HB.out.cell (World.block_lt_of_cell? w _ hx596_1)).trans hx596_1
        replace p596 := eq_true p596
        replace q596 := eq_true q596
        have p597 : 0 ≤ (x5_1 : Int) := od_
        have q597 : x5_1 < (l1.length : Int) := od_
        obtain ⟨ad597, e597, hx597_0, hx597_1⟩ := at_T26 HR1.out x5_1 p597 q597
        have hw597_1 := hx597_1
        have hw597_0 := hx597_0
        cases e597
        replace hx597_0 := (HB.out.cell (World.block_lt_of_cell? w _ hx597_0)).trans hx597_0
        replace hx597_1 := (HB.out.cell (World.block_lt_of_cell? w _ hx597_1)).trans hx597_1
        replace p597 := eq_true p597
        replace q597 := eq_true q597
        refine start_ (n := 10) (S := fun w' => w'.cell? (ad596.add ((x5_1).toNat * 2)) = some (.string ((rd_T26 l0 x5_1).f0)) ∧ w'.cell? ⟨(ad596.add ((x5_1).toNat * 2)).block, (ad596.add ((x5_1).toNat * 2)).off + 1, none⟩ = some (.string ((rd_T26 l0 x5_1).f1)) ∧ w'.cell? (ad597.add ((x5_1).toNat * 2)) = some (.string ((rd_T26 l1 x5_1).f0)) ∧ w'.cell? ⟨(ad597.add ((x5_1).toNat * 2)).block, (ad597.add ((x5_1).toNat * 2)).off + 1, none⟩ = some (.string ((rd_T26 l1 x5_1).f1))) (ds := []) (bq_ 0 10) (by kernel_rfl) rfl rfl ⟨((HB.out.cell (World.block_lt_of_cell? w _ hw596_0)).trans hw596_0), ((HB.out.cell (World.block_lt_of_cell? w _ hw596_1)).trans hw596_1), ((HB.out.cell (World.block_lt_of_cell? w _ hw597_0)).trans hw597_0), ((HB.out.cell (World.block_lt_of_cell? w _ hw597_1)).trans hw597_1)⟩ (fun hHeld => ?_); refine with_tabW laws_eqPairS.tab6 laws_eqPairS.bits6 (fun HT_ HW_ => ?_)
        generalize wr.drew = w11 at HB hx596_0 hx596_1 hx597_0 hx597_1 hHeld ⊢
        refine pu_ 0 (some 17) (bq_ 1 9) HT_ ?_
        refine pu_ 1 (some 18) (bq_ 2 8) HT_ ?_
        refine pu_ 2 (some 19) (bq_ 3 7) HT_ ?_
        refine pu_ 4 (some 21) (br_ [3, 1, 1, 5]) HT_ ?_
        refine pu_ 5 (some 22) (br_ [3, 1, 2, 4]) HT_ ?_
        refine pu_ 6 (some 23) (br_ [3, 1, 3, 3]) HT_ ?_
        refine take_ (i := 3) (N := some 20) (v := ?_) (a' := ?_) (bq_ 7 3) rfl rfl (take_ofW HT_.out HW_.out (by kernel_rfl)) (fun _ _ _ h => h) (Or.inl ⟨by rfl, ?_⟩) hHeld ?_ ?_
        rotate_left
        · rintro w' ⟨s0, s1, s2, s3⟩
          go_simp
          with_reducible rfl
        rotate_left
        · simp only [Act.put, sa_, sz_, ss_, i64_w, i32_w]; rfl
        refine take_ (i := 7) (N := some 24) (v := ?_) (a' := ?_) (bq_ 8 2) rfl rfl (take_ofW HT_.out HW_.out (by kernel_rfl)) (fun _ _ _ h => h) (Or.inl ⟨by rfl, ?_⟩) hHeld ?_ ?_
        rotate_left
        · rintro w' ⟨s0, s1, s2, s3⟩
          go_simp
          with_reducible rfl
        rotate_left
        · simp only [Act.put, sa_, sz_, ss_, i64_w, i32_w]; rfl
        refine on_ 8 (some 25) (bq_ 9 1) HT_ (fun K hK => ?_)
        refine goes_ Try.func77 (by kernel_rfl) rfl #[.agg #[.string ((rd_T26 l0 x5_1).f0), .string ((rd_T26 l0 x5_1).f1)], .agg #[.string ((rd_T26 l1 x5_1).f0), .string ((rd_T26 l1 x5_1).f1)]] (by rfl) rfl rfl al_ ?_
        with_reducible refine (laws_eqPair.calls ((rd_T26 l0 x5_1).f0) ((rd_T26 l0 x5_1).f1) ((rd_T26 l1 x5_1).f0) ((rd_T26 l1 x5_1).f1) false _ A7.out).mono ?_
        rintro e w12 ⟨rfl, hb⟩
        refine ⟨_, rfl, ?_⟩
        replace HB := q_ (below_step (be_ HB.out) hb)
        (try clear hb)
        (try clear hb2)
        (try clear hk)
        (try clear hi)
        refine hK.out _ _ ⟨((HB.out.cell (World.block_lt_of_cell? w _ hw596_0)).trans hw596_0), ((HB.out.cell (World.block_lt_of_cell? w _ hw596_1)).trans hw596_1), ((HB.out.cell (World.block_lt_of_cell? w _ hw597_0)).trans hw597_0), ((HB.out.cell (World.block_lt_of_cell? w _ hw597_1)).trans hw597_1)⟩ (fun hHeld => ?_)
        clear hK K
        refine nm_ ?_
        refine pu_ 9 (some 26) (bq_ 10 0) HT_ ?_
        refine done_ (done_of HT_.out (by kernel_rfl)) ?_
        try go_wp2
        go_ret
        exact ⟨rf_, be_ HB.out⟩
      subst c8
      rw [if_pos rfl] at H
      have H' := Aside0.mk H
      clear H
      try go_wp2
      replace HB := q_ (below_drew1 HB.out)
      have p596 : 0 ≤ (x5_1 : Int) := od_
      have q596 : x5_1 < (l0.length : Int) := od_
      obtain ⟨ad596, e596, hx596_0, hx596_1⟩ := at_T26 HR0.out x5_1 p596 q596
      have hw596_1 := hx596_1
      have hw596_0 := hx596_0
      cases e596
      replace hx596_0 := (HB.out.cell (World.block_lt_of_cell? w _ hx596_0)).trans hx596_0
      replace hx596_1 := (HB.out.cell (World.block_lt_of_cell? w _ hx596_1)).trans hx596_1
      replace p596 := eq_true p596
      replace q596 := eq_true q596
      have p597 : 0 ≤ (x5_1 : Int) := od_
      have q597 : x5_1 < (l1.length : Int) := od_
      obtain ⟨ad597, e597, hx597_0, hx597_1⟩ := at_T26 HR1.out x5_1 p597 q597
      have hw597_1 := hx597_1
      have hw597_0 := hx597_0
      cases e597
      replace hx597_0 := (HB.out.cell (World.block_lt_of_cell? w _ hx597_0)).trans hx597_0
      replace hx597_1 := (HB.out.cell (World.block_lt_of_cell? w _ hx597_1)).trans hx597_1
      replace p597 := eq_true p597
      replace q597 := eq_true q597
      refine start_ (n := 10) (S := fun w' => w'.cell? (ad596.add ((x5_1).toNat * 2)) = some (.string ((rd_T26 l0 x5_1).f0)) ∧ w'.cell? ⟨(ad596.add ((x5_1).toNat * 2)).block, (ad596.add ((x5_1).toNat * 2)).off + 1, none⟩ = some (.string ((rd_T26 l0 x5_1).f1)) ∧ w'.cell? (ad597.add ((x5_1).toNat * 2)) = some (.string ((rd_T26 l1 x5_1).f0)) ∧ w'.cell? ⟨(ad597.add ((x5_1).toNat * 2)).block, (ad597.add ((x5_1).toNat * 2)).off + 1, none⟩ = some (.string ((rd_T26 l1 x5_1).f1))) (ds := []) (bq_ 0 10) (by kernel_rfl) rfl rfl ⟨((HB.out.cell (World.block_lt_of_cell? w _ hw596_0)).trans hw596_0), ((HB.out.cell (World.block_lt_of_cell? w _ hw596_1)).trans hw596_1), ((HB.out.cell (World.block_lt_of_cell? w _ hw597_0)).trans hw597_0), ((HB.out.cell (World.block_lt_of_cell? w _ hw597_1)).trans hw597_1)⟩ (fun hHeld => ?_); refine with_tabW laws_eqPairS.tab6 laws_eqPairS.bits6 (fun HT_ HW_ => ?_)
      generalize wr.drew = w9 at HB hx596_0 hx596_1 hx597_0 hx597_1 hHeld ⊢
      refine pu_ 0 (some 17) (bq_ 1 9) HT_ ?_
      refine pu_ 1 (some 18) (bq_ 2 8) HT_ ?_
      refine pu_ 2 (some 19) (bq_ 3 7) HT_ ?_
      refine pu_ 4 (some 21) (br_ [3, 1, 1, 5]) HT_ ?_
      refine pu_ 5 (some 22) (br_ [3, 1, 2, 4]) HT_ ?_
      refine pu_ 6 (some 23) (br_ [3, 1, 3, 3]) HT_ ?_
      refine take_ (i := 3) (N := some 20) (v := ?_) (a' := ?_) (bq_ 7 3) rfl rfl (take_ofW HT_.out HW_.out (by kernel_rfl)) (fun _ _ _ h => h) (Or.inl ⟨by rfl, ?_⟩) hHeld ?_ ?_
      rotate_left
      · rintro w' ⟨s0, s1, s2, s3⟩
        go_simp
        with_reducible rfl
      rotate_left
      · simp only [Act.put, sa_, sz_, ss_, i64_w, i32_w]; rfl
      refine take_ (i := 7) (N := some 24) (v := ?_) (a' := ?_) (bq_ 8 2) rfl rfl (take_ofW HT_.out HW_.out (by kernel_rfl)) (fun _ _ _ h => h) (Or.inl ⟨by rfl, ?_⟩) hHeld ?_ ?_
      rotate_left
      · rintro w' ⟨s0, s1, s2, s3⟩
        go_simp
        with_reducible rfl
      rotate_left
      · simp only [Act.put, sa_, sz_, ss_, i64_w, i32_w]; rfl
      refine on_ 8 (some 25) (bq_ 9 1) HT_ (fun K hK => ?_)
      refine goes_ Try.func77 (by kernel_rfl) rfl #[.agg #[.string ((rd_T26 l0 x5_1).f0), .string ((rd_T26 l0 x5_1).f1)], .agg #[.string ((rd_T26 l1 x5_1).f0), .string ((rd_T26 l1 x5_1).f1)]] (by rfl) rfl rfl al_ ?_
      with_reducible refine (laws_eqPair.calls ((rd_T26 l0 x5_1).f0) ((rd_T26 l0 x5_1).f1) ((rd_T26 l1 x5_1).f0) ((rd_T26 l1 x5_1).f1) true _ A7.out).mono ?_
      rintro e w10 ⟨rfl, hb⟩
      refine ⟨_, rfl, ?_⟩
      replace HB := q_ (below_step (be_ HB.out) hb)
      (try clear hb)
      (try clear hb2)
      (try clear hk)
      (try clear hi)
      refine hK.out _ _ ⟨((HB.out.cell (World.block_lt_of_cell? w _ hw596_0)).trans hw596_0), ((HB.out.cell (World.block_lt_of_cell? w _ hw596_1)).trans hw596_1), ((HB.out.cell (World.block_lt_of_cell? w _ hw597_0)).trans hw597_0), ((HB.out.cell (World.block_lt_of_cell? w _ hw597_1)).trans hw597_1)⟩ (fun hHeld => ?_)
      clear hK K
      refine nm_ ?_
      refine pu_ 9 (some 26) (bq_ 10 0) HT_ ?_
      refine done_ (done_of HT_.out (by kernel_rfl)) ?_
      try go_wp2
      go_roundg k1
      case measure => have := HK1.out; omega
      case rel => exact ⟨(wrap64 (x5_1 + 1)), rs_, H', ⟨by have := HK1.out; omega⟩, ⟨be_ HB.out⟩⟩
  · rw [if_neg c3] at H
    have c3b0 : ((l0.length : Int) == (l1.length : Int)) = false := beq_eq_false_iff_ne.mpr c3
    have c3b1 : ((l0.length : Int) != (l1.length : Int)) = true := bne_iff_ne.mpr c3
    have c3b2 : (l0.length == l1.length) = false := by first | simpa using c3 | (simp at c3 ⊢; omega)
    obtain rfl := Option.some.inj H
    go_enter Try.func21, Try.ntmps21
    go_wp2
    go_ret
    exact ⟨rf_, be_ HB.out⟩

/-! ###  laws_eqStringS: function 45 -/
def laws_eqStringS.l0 : Nat → List ByteArray → List ByteArray → Int → Option (Bool)
  | 0, _, _, _ => none
  | k + 1, x0, x1, x5 => if x5 < (x0.length : Int) then (if 0 ≤ x5 then (if x5 < (x1.length : Int) then (if (rdOf ByteArray.empty x0 x5).toList = (rdOf ByteArray.empty x1 x5).toList then (laws_eqStringS.l0 k x0 x1 (wrap64 (x5 + 1))) else (some false)) else (none)) else (none)) else (some true)
def laws_eqStringS.f (k : Nat) (l0 : List ByteArray) (l1 : List ByteArray) : Option (Bool) := if (l0.length : Int) = (l1.length : Int) then (laws_eqStringS.l0 k l0 l1 0) else (some false)
set_option maxHeartbeats 8000000 in
set_option maxRecDepth 100000 in
theorem laws_eqStringS.calls (k : Nat) (A0 : Option Addr) (c0 : Nat) (l0 : List ByteArray) (A1 : Option Addr) (c1 : Nat) (l1 : List ByteArray) (r : Bool) (w : World) (hr0 : Kd.C Kd.string w A0 l0.length l0) (hc0 : l0.length ≤ c0) (hr1 : Kd.C Kd.string w A1 l1.length l1) (hc1 : l1.length ≤ c1) (h : laws_eqStringS.f k l0 l1 = some r) :
  Calls Try.prog 45 #[.slice A0 l0.length c0, .slice A1 l1.length c1] w fun e w' => e = .returned (.bool r) ∧ Drawn0 w w' := by
  have HR0 := Aside0.mk hr0
  have HC0 := Aside0.mk hc0
  clear hr0 hc0
  have HR1 := Aside0.mk hr1
  have HC1 := Aside0.mk hc1
  clear hr1 hc1
  have H : (if (l0.length : Int) = (l1.length : Int) then (laws_eqStringS.l0 k l0 l1 0) else (some false)) = some r := h
  clear h
  by_cases c3 : (l0.length : Int) = (l1.length : Int)
  · rw [if_pos c3] at H
    have c3b0 : ((l0.length : Int) == (l1.length : Int)) = true := beq_iff_eq.mpr c3
    have c3b1 : ((l0.length : Int) != (l1.length : Int)) = false := bne_eq_false_iff_eq.mpr c3
    have c3b2 : (l0.length == l1.length) = true := by first | simpa using c3 | (simp at c3 ⊢; omega)
    clear c3
    have H' := Aside0.mk H
    clear H
    go_enter Try.func45, Try.ntmps45
    go_wp2
    repeat (go_quiet (fail); try go_wp2)
    go_loopg [5] k (fun kq v5 w' => ∃ (x5_1 : Int), v5 = .int .i64 x5_1 ∧ Aside0 (laws_eqStringS.l0 kq l0 l1 x5_1 = some r) ∧ Aside0 (kq ≤ k) ∧ Drawn0 w w')
    case atStart => exact ⟨(0), rs_, H', ⟨Nat.le_refl _⟩, by repeat (first | exact Drawn0.refl _ | apply Drawn0.step)⟩
    case round =>
     clear H'
     try clear c1
     try clear p2
     try clear c3
     try clear c3b0
     try clear c3b1
     try clear c3b2
     obtain ⟨x5_1, rfl, HA, HK1, ⟨m1, rfl⟩⟩ := hrel
     cases gk with
     | zero => exact absurd HA.out (by simp [laws_eqStringS.l0])
     | succ k1 =>
      have H := HA.out
      clear HA
      simp only [laws_eqStringS.l0] at H
      by_cases c4 : x5_1 < (l0.length : Int)
      rotate_left
      · rw [if_neg c4] at H
        have c4b0 : decide (x5_1 < (l0.length : Int)) = false := decide_eq_false c4
        clear c4
        obtain rfl := Option.some.inj H
        go_wp2
        repeat (go_quiet (fail); try go_wp2)
        go_ret
        exact ⟨rs_, by repeat (first | exact Drawn0.refl _ | apply Drawn0.step)⟩
      rw [if_pos c4] at H
      have c4b0 : decide (x5_1 < (l0.length : Int)) = true := decide_eq_true c4
      clear c4
      by_cases c5 : 0 ≤ x5_1
      rotate_left
      · rw [if_neg c5] at H; exact absurd H (by simp)
      rw [if_pos c5] at H
      have c5b0 : decide (0 ≤ x5_1) = true := decide_eq_true c5
      clear c5
      by_cases c6 : x5_1 < (l1.length : Int)
      rotate_left
      · rw [if_neg c6] at H; exact absurd H (by simp)
      rw [if_pos c6] at H
      have c6b0 : decide (x5_1 < (l1.length : Int)) = true := decide_eq_true c6
      clear c6
      by_cases c7 : (rdOf ByteArray.empty l0 x5_1).toList = (rdOf ByteArray.empty l1 x5_1).toList
      rotate_left
      · rw [if_neg c7] at H
        have c7b0 : ((rdOf ByteArray.empty l0 x5_1).toList == (rdOf ByteArray.empty l1 x5_1).toList) = false := beq_eq_false_iff_ne.mpr c7
        have c7b1 : ((rdOf ByteArray.empty l0 x5_1).toList != (rdOf ByteArray.empty l1 x5_1).toList) = true := bne_iff_ne.mpr c7
        obtain rfl := Option.some.inj H
        have p599 : 0 ≤ (x5_1 : Int) := od_
        have q599 : x5_1 < (l0.length : Int) := od_
        obtain ⟨ad599, e599, hx599_0⟩ := Kd.at_string HR0.out x5_1 p599 q599
        cases e599
        replace p599 := eq_true p599
        replace q599 := eq_true q599
        have p600 : 0 ≤ (x5_1 : Int) := od_
        have q600 : x5_1 < (l1.length : Int) := od_
        obtain ⟨ad600, e600, hx600_0⟩ := Kd.at_string HR1.out x5_1 p600 q600
        cases e600
        replace p600 := eq_true p600
        replace q600 := eq_true q600
        go_wp2
        repeat (go_quiet (fail); try go_wp2)
        go_ret
        exact ⟨rs_, by repeat (first | exact Drawn0.refl _ | apply Drawn0.step)⟩
      rw [if_pos c7] at H
      have c7b0 : ((rdOf ByteArray.empty l0 x5_1).toList == (rdOf ByteArray.empty l1 x5_1).toList) = true := beq_iff_eq.mpr c7
      have c7b1 : ((rdOf ByteArray.empty l0 x5_1).toList != (rdOf ByteArray.empty l1 x5_1).toList) = false := bne_eq_false_iff_eq.mpr c7
      clear c7
      have H' := Aside0.mk H
      clear H
      have p599 : 0 ≤ (x5_1 : Int) := od_
      have q599 : x5_1 < (l0.length : Int) := od_
      obtain ⟨ad599, e599, hx599_0⟩ := Kd.at_string HR0.out x5_1 p599 q599
      cases e599
      replace p599 := eq_true p599
      replace q599 := eq_true q599
      have p600 : 0 ≤ (x5_1 : Int) := od_
      have q600 : x5_1 < (l1.length : Int) := od_
      obtain ⟨ad600, e600, hx600_0⟩ := Kd.at_string HR1.out x5_1 p600 q600
      cases e600
      replace p600 := eq_true p600
      replace q600 := eq_true q600
      go_wp2
      repeat (go_quiet (fail); try go_wp2)
      go_roundg k1
      case measure => have := HK1.out; omega
      case rel => exact ⟨(wrap64 (x5_1 + 1)), rs_, H', ⟨by have := HK1.out; omega⟩, by repeat (first | exact Drawn0.refl _ | apply Drawn0.step)⟩
  · rw [if_neg c3] at H
    have c3b0 : ((l0.length : Int) == (l1.length : Int)) = false := beq_eq_false_iff_ne.mpr c3
    have c3b1 : ((l0.length : Int) != (l1.length : Int)) = true := bne_iff_ne.mpr c3
    have c3b2 : (l0.length == l1.length) = false := by first | simpa using c3 | (simp at c3 ⊢; omega)
    obtain rfl := Option.some.inj H
    go_enter Try.func45, Try.ntmps45
    go_wp2
    repeat (go_quiet (fail); try go_wp2)
    go_ret
    exact ⟨rs_, by repeat (first | exact Drawn0.refl _ | apply Drawn0.step)⟩

/-! ###  laws_eqItem: function 114 -/
def laws_eqItem.f (k : Nat) (a0_0 : ByteArray) (a0_1 : ByteArray) (l0_2 : List ByteArray) (a1_0 : ByteArray) (a1_1 : ByteArray) (l1_2 : List ByteArray) : Option (Bool) := (laws_eqPair.f a0_0 a0_1 a1_0 a1_1).bind fun t603 => (if t603 = true then ((laws_eqStringS.f k l0_2 l1_2).bind fun t604 => (if t604 = true then (some true) else (some false))) else (some false))
set_option maxHeartbeats 8000000 in
set_option maxRecDepth 100000 in
theorem laws_eqItem.calls (k : Nat) (a0_0 : ByteArray) (a0_1 : ByteArray) (A0_2 : Option Addr) (c0_2 : Nat) (l0_2 : List ByteArray) (a1_0 : ByteArray) (a1_1 : ByteArray) (A1_2 : Option Addr) (c1_2 : Nat) (l1_2 : List ByteArray) (r : Bool) (w : World) (hr0_2 : Kd.C Kd.string w A0_2 l0_2.length l0_2) (hc0_2 : l0_2.length ≤ c0_2) (hr1_2 : Kd.C Kd.string w A1_2 l1_2.length l1_2) (hc1_2 : l1_2.length ≤ c1_2) (h : laws_eqItem.f k a0_0 a0_1 l0_2 a1_0 a1_1 l1_2 = some r) :
  Calls Try.prog 114 #[.agg #[.string a0_0, .string a0_1, .slice A0_2 l0_2.length c0_2], .agg #[.string a1_0, .string a1_1, .slice A1_2 l1_2.length c1_2]] w fun e w' => e = .returned (.bool r) ∧ Below w.heap.size w w' := by
  have hu63 := Try.underlying63
  have hu26 := Try.underlying26
  have HR0_2 := Aside0.mk hr0_2
  have HC0_2 := Aside0.mk hc0_2
  clear hr0_2 hc0_2
  have HR1_2 := Aside0.mk hr1_2
  have HC1_2 := Aside0.mk hc1_2
  clear hr1_2 hc1_2
  have HB := q_ (Below.refl w.heap.size w)
  have H : ((laws_eqPair.f a0_0 a0_1 a1_0 a1_1).bind fun t603 => (if t603 = true then ((laws_eqStringS.f k l0_2 l1_2).bind fun t604 => (if t604 = true then (some true) else (some false))) else (some false))) = some r := h
  clear h
  replace H := Option.bind_eq_some_iff.mp H
  obtain ⟨t603, A30, H⟩ := H
  have A3 := Aside0.mk A30
  clear A30
  by_cases c4 : t603 = true
  · subst c4
    rw [if_pos rfl] at H
    replace H := Option.bind_eq_some_iff.mp H
    obtain ⟨t604, A50, H⟩ := H
    have A5 := Aside0.mk A50
    clear A50
    by_cases c6 : t604 = true
    · subst c6
      rw [if_pos rfl] at H
      obtain rfl := Option.some.inj H
      go_enter Try.func114, Try.ntmps114
      go_wp2_with (first | ((with_reducible refine gate_dst (N := 2) rfl ?_); refine box_event rfl (N := 2) rfl (cs := #[.string a0_0, .string a0_1, .slice A0_2 l0_2.length c0_2]) (t := 63) hr_ ?_; intro gb601 hg w7 hbox hb; have BK601 := q_ (hbox); have GW601 := q_ ((by rw [hg]; exact (below_size (be_ HB.out)) : w.heap.size ≤ gb601)); have GE601 := q_ ((by rw [hg]; exact (below_size (be_ HB.out)) : w.heap.size ≤ gb601)); replace HB := q_ (below_step (be_ HB.out) hb); clear hb hbox hg) | ((with_reducible refine gate_dst (N := 3) rfl ?_); refine box_event rfl (N := 3) rfl (cs := #[.string a1_0, .string a1_1, .slice A1_2 l1_2.length c1_2]) (t := 63) hr_ ?_; intro gb602 hg w8 hbox hb; have BK602 := q_ (hbox); have GW602 := q_ ((by rw [hg]; exact (below_size (bs_ HB.out GE601.out)) : w.heap.size ≤ gb602)); have GE602 := q_ ((by rw [hg]; exact (below_size (bs_ HB.out GE601.out)) : w.heap.size ≤ gb602)); replace HB := q_ (below_step (bs_ HB.out GE601.out) hb); have NB601_602 := q_ ((by rw [hg]; exact Nat.ne_of_lt (blk_lt (g := gb601) (o := .cells #[.string a0_0, .string a0_1, .slice A0_2 l0_2.length c0_2] 63 (0, 0)) (bk_ BK601.out)) : gb601 ≠ gb602)); have NB602_601 := q_ ((by rw [hg]; exact Nat.ne_of_gt (blk_lt (g := gb601) (o := .cells #[.string a0_0, .string a0_1, .slice A0_2 l0_2.length c0_2] 63 (0, 0)) (bk_ BK601.out)) : gb602 ≠ gb601)); replace BK601 := q_ (bb_ BK601.out hb); clear hb hbox hg; have hnb9 := NB601_602.out; have hnc9 := NB602_601.out; obtain ⟨hcz10_0, hcz10_1, hcz10_2, hfz10_0, hfz10_1, hfz10_2⟩ := bx3_ BK601.out; obtain ⟨hcz11_0, hcz11_1, hcz11_2, hfz11_0, hfz11_1, hfz11_2⟩ := bx3_ BK602.out) | ((with_reducible refine gate_callee (f := 77) rfl ?_); refine gl_ (some 9) Try.func77 #[.agg #[.string a0_0, .string a0_1], .agg #[.string a1_0, .string a1_1]] rfl al_ ?_; (with_reducible refine (laws_eqPair.calls a0_0 a0_1 a1_0 a1_1 true _ A3.out).mono ?_); rintro e w12 ⟨rfl, hb⟩; refine ⟨_, rfl, ?_⟩; replace BK601 := q_ (bb_ BK601.out hb); replace BK602 := q_ (bb_ BK602.out hb); replace HB := q_ (below_step (b2_ HB.out GE601.out GE602.out) hb); (try clear hb); obtain ⟨hcz13_0, hcz13_1, hcz13_2, hfz13_0, hfz13_1, hfz13_2⟩ := bx3_ BK601.out; obtain ⟨hcz14_0, hcz14_1, hcz14_2, hfz14_0, hfz14_1, hfz14_2⟩ := bx3_ BK602.out) | ((with_reducible refine gate_callee (f := 45) rfl ?_); refine gl_ (some 15) Try.func45 #[.slice A0_2 l0_2.length c0_2, .slice A1_2 l1_2.length c1_2] rfl al_ ?_; (with_reducible refine (laws_eqStringS.calls k _ _ l0_2 _ _ l1_2 true _ ?side1 ?side2 ?side3 ?side4 A5.out).mono ?_); (case side1 => exact kc_ (Kd.C_below HR0_2.out HB.out)); (case side2 => exact HC0_2.out); (case side3 => exact kc_ (Kd.C_below HR1_2.out HB.out)); (case side4 => exact HC1_2.out); rintro e w' ⟨rfl, ⟨nd, rfl⟩⟩; refine ⟨_, rfl, ?_⟩))
      go_ret
      exact ⟨rf_, b2_ HB.out GE601.out GE602.out⟩
    replace c6 := Bool.eq_false_iff.mpr c6
    subst c6
    rw [if_neg (show ¬ (false = true) by decide)] at H
    obtain rfl := Option.some.inj H
    go_enter Try.func114, Try.ntmps114
    go_wp2_with (first | ((with_reducible refine gate_dst (N := 2) rfl ?_); refine box_event rfl (N := 2) rfl (cs := #[.string a0_0, .string a0_1, .slice A0_2 l0_2.length c0_2]) (t := 63) hr_ ?_; intro gb601 hg w15 hbox hb; have BK601 := q_ (hbox); have GW601 := q_ ((by rw [hg]; exact (below_size (be_ HB.out)) : w.heap.size ≤ gb601)); have GE601 := q_ ((by rw [hg]; exact (below_size (be_ HB.out)) : w.heap.size ≤ gb601)); replace HB := q_ (below_step (be_ HB.out) hb); clear hb hbox hg) | ((with_reducible refine gate_dst (N := 3) rfl ?_); refine box_event rfl (N := 3) rfl (cs := #[.string a1_0, .string a1_1, .slice A1_2 l1_2.length c1_2]) (t := 63) hr_ ?_; intro gb602 hg w16 hbox hb; have BK602 := q_ (hbox); have GW602 := q_ ((by rw [hg]; exact (below_size (bs_ HB.out GE601.out)) : w.heap.size ≤ gb602)); have GE602 := q_ ((by rw [hg]; exact (below_size (bs_ HB.out GE601.out)) : w.heap.size ≤ gb602)); replace HB := q_ (below_step (bs_ HB.out GE601.out) hb); have NB601_602 := q_ ((by rw [hg]; exact Nat.ne_of_lt (blk_lt (g := gb601) (o := .cells #[.string a0_0, .string a0_1, .slice A0_2 l0_2.length c0_2] 63 (0, 0)) (bk_ BK601.out)) : gb601 ≠ gb602)); have NB602_601 := q_ ((by rw [hg]; exact Nat.ne_of_gt (blk_lt (g := gb601) (o := .cells #[.string a0_0, .string a0_1, .slice A0_2 l0_2.length c0_2] 63 (0, 0)) (bk_ BK601.out)) : gb602 ≠ gb601)); replace BK601 := q_ (bb_ BK601.out hb); clear hb hbox hg; have hnb17 := NB601_602.out; have hnc17 := NB602_601.out; obtain ⟨hcz18_0, hcz18_1, hcz18_2, hfz18_0, hfz18_1, hfz18_2⟩ := bx3_ BK601.out; obtain ⟨hcz19_0, hcz19_1, hcz19_2, hfz19_0, hfz19_1, hfz19_2⟩ := bx3_ BK602.out) | ((with_reducible refine gate_callee (f := 77) rfl ?_); refine gl_ (some 9) Try.func77 #[.agg #[.string a0_0, .string a0_1], .agg #[.string a1_0, .string a1_1]] rfl al_ ?_; (with_reducible refine (laws_eqPair.calls a0_0 a0_1 a1_0 a1_1 true _ A3.out).mono ?_); rintro e w20 ⟨rfl, hb⟩; refine ⟨_, rfl, ?_⟩; replace BK601 := q_ (bb_ BK601.out hb); replace BK602 := q_ (bb_ BK602.out hb); replace HB := q_ (below_step (b2_ HB.out GE601.out GE602.out) hb); (try clear hb); obtain ⟨hcz21_0, hcz21_1, hcz21_2, hfz21_0, hfz21_1, hfz21_2⟩ := bx3_ BK601.out; obtain ⟨hcz22_0, hcz22_1, hcz22_2, hfz22_0, hfz22_1, hfz22_2⟩ := bx3_ BK602.out) | ((with_reducible refine gate_callee (f := 45) rfl ?_); refine gl_ (some 15) Try.func45 #[.slice A0_2 l0_2.length c0_2, .slice A1_2 l1_2.length c1_2] rfl al_ ?_; (with_reducible refine (laws_eqStringS.calls k _ _ l0_2 _ _ l1_2 false _ ?side1 ?side2 ?side3 ?side4 A5.out).mono ?_); (case side1 => exact kc_ (Kd.C_below HR0_2.out HB.out)); (case side2 => exact HC0_2.out); (case side3 => exact kc_ (Kd.C_below HR1_2.out HB.out)); (case side4 => exact HC1_2.out); rintro e w' ⟨rfl, ⟨nd, rfl⟩⟩; refine ⟨_, rfl, ?_⟩))
    go_ret
    exact ⟨rf_, b2_ HB.out GE601.out GE602.out⟩
  · replace c4 := Bool.eq_false_iff.mpr c4
    subst c4
    rw [if_neg (show ¬ (false = true) by decide)] at H
    obtain rfl := Option.some.inj H
    go_enter Try.func114, Try.ntmps114
    go_wp2_with (first | ((with_reducible refine gate_dst (N := 2) rfl ?_); refine box_event rfl (N := 2) rfl (cs := #[.string a0_0, .string a0_1, .slice A0_2 l0_2.length c0_2]) (t := 63) hr_ ?_; intro gb601 hg w23 hbox hb; have BK601 := q_ (hbox); have GW601 := q_ ((by rw [hg]; exact (below_size (be_ HB.out)) : w.heap.size ≤ gb601)); have GE601 := q_ ((by rw [hg]; exact (below_size (be_ HB.out)) : w.heap.size ≤ gb601)); replace HB := q_ (below_step (be_ HB.out) hb); clear hb hbox hg) | ((with_reducible refine gate_dst (N := 3) rfl ?_); refine box_event rfl (N := 3) rfl (cs := #[.string a1_0, .string a1_1, .slice A1_2 l1_2.length c1_2]) (t := 63) hr_ ?_; intro gb602 hg w24 hbox hb; have BK602 := q_ (hbox); have GW602 := q_ ((by rw [hg]; exact (below_size (bs_ HB.out GE601.out)) : w.heap.size ≤ gb602)); have GE602 := q_ ((by rw [hg]; exact (below_size (bs_ HB.out GE601.out)) : w.heap.size ≤ gb602)); replace HB := q_ (below_step (bs_ HB.out GE601.out) hb); have NB601_602 := q_ ((by rw [hg]; exact Nat.ne_of_lt (blk_lt (g := gb601) (o := .cells #[.string a0_0, .string a0_1, .slice A0_2 l0_2.length c0_2] 63 (0, 0)) (bk_ BK601.out)) : gb601 ≠ gb602)); have NB602_601 := q_ ((by rw [hg]; exact Nat.ne_of_gt (blk_lt (g := gb601) (o := .cells #[.string a0_0, .string a0_1, .slice A0_2 l0_2.length c0_2] 63 (0, 0)) (bk_ BK601.out)) : gb602 ≠ gb601)); replace BK601 := q_ (bb_ BK601.out hb); clear hb hbox hg; have hnb25 := NB601_602.out; have hnc25 := NB602_601.out; obtain ⟨hcz26_0, hcz26_1, hcz26_2, hfz26_0, hfz26_1, hfz26_2⟩ := bx3_ BK601.out; obtain ⟨hcz27_0, hcz27_1, hcz27_2, hfz27_0, hfz27_1, hfz27_2⟩ := bx3_ BK602.out) | ((with_reducible refine gate_callee (f := 77) rfl ?_); refine gl_ (some 9) Try.func77 #[.agg #[.string a0_0, .string a0_1], .agg #[.string a1_0, .string a1_1]] rfl al_ ?_; (with_reducible refine (laws_eqPair.calls a0_0 a0_1 a1_0 a1_1 false _ A3.out).mono ?_); rintro e w28 ⟨rfl, hb⟩; refine ⟨_, rfl, ?_⟩; replace BK601 := q_ (bb_ BK601.out hb); replace BK602 := q_ (bb_ BK602.out hb); replace HB := q_ (below_step (b2_ HB.out GE601.out GE602.out) hb); (try clear hb)))
    go_ret
    exact ⟨rf_, b2_ HB.out GE601.out GE602.out⟩

end Go.Proofs.Ytgaalomhipfgjaa.P
