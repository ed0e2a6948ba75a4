-- Written by wip/xp/xp.py over the kit's print; Lean checks it.
import Derived.Test.YtgaalomhipfgjaaStr
import Derived.Test.YtgaalomhipfgjaaPx0
import Derived.Test.YtgaalomhipfgjaaPx15
import Derived.Test.YtgaalomhipfgjaaPx17
namespace Go.Proofs.Ytgaalomhipfgjaa.P
open Go.RowKit Go.Proofs.YtgaalomhipfgjaaW.PrintWords Go.Proofs.YtgaalomhipfgjaaW.PrintLast Go.Proofs.YtgaalomhipfgjaaW.PrintMore
attribute [local go_sem] max2_int min2_int max_two min_two max_three min_three max_four min_four   -- for this text's walks alone
set_option linter.unusedVariables false
set_option linter.unusedSimpArgs false

/-! ###  spec_ProveBetween: function 37 -/
mutual
def spec_ProveBetween.j1 : Nat → List (S26) → ByteArray → ByteArray → Int → Int → Int → Option (Int × Int × (List (S63)))
  | 0, _, _, _, _, _, _ => none
  | k + 1, x0, x1, x2, x8, x773000, x773001 => spec_ProveBetween.l1 k x0 x1 x2 x8 x8 x773000 x773001
def spec_ProveBetween.j3 : Nat → List (S26) → Int → Int → Int → Int → Option (Int × Int × (List (S63)))
  | 0, _, _, _, _, _ => none
  | k + 1, x0, x8, x9, x773000, x773001 => if x8 > 0 then (spec_ProveBetween.j4 k x0 (wrap64 (x8 - 1)) x9 x773000 x773001) else (spec_ProveBetween.j4 k x0 x8 x9 x773000 x773001)
def spec_ProveBetween.j4 : Nat → List (S26) → Int → Int → Int → Int → Option (Int × Int × (List (S63)))
  | 0, _, _, _, _, _ => none
  | k + 1, x0, x8, x9, x773000, x773001 => if x9 < (x0.length : Int) then (spec_ProveBetween.j5 k x0 x8 (wrap64 (x9 + 1)) x773000 x773001) else (spec_ProveBetween.j5 k x0 x8 x9 x773000 x773001)
def spec_ProveBetween.j5 : Nat → List (S26) → Int → Int → Int → Int → Option (Int × Int × (List (S63)))
  | 0, _, _, _, _, _ => none
  | k + 1, x0, x8, x9, x773000, x773001 => if x8 < x9 then (spec_ProveBetween.j6 k x0 x8 x9 x773000 x8) else (spec_ProveBetween.j6 k x0 x8 x9 x773000 x773001)
def spec_ProveBetween.j6 : Nat → List (S26) → Int → Int → Int → Int → Option (Int × Int × (List (S63)))
  | 0, _, _, _, _, _ => none
  | k + 1, x0, x8, x9, x773000, x773001 => spec_ProveBetween.l2 k x0 x9 x8 x773000 x773001 ([] : List (S63))
def spec_ProveBetween.l2 : Nat → List (S26) → Int → Int → Int → Int → List (S63) → Option (Int × Int × (List (S63)))
  | 0, _, _, _, _, _, _ => none
  | k + 1, x0, x9, x10, x773000, x773001, x773002 => if x10 < x9 then (if 0 ≤ x10 then (if x10 < (x0.length : Int) then ((spec_l4Path.f k x0 x10).bind fun t777 => (if x773002.length < 2513169434916 then (spec_ProveBetween.l2 k x0 x9 (wrap64 (x10 + 1)) x773000 x773001 (x773002 ++ [(⟨(⟨(rd_T26 x0 x10).f0, (rd_T26 x0 x10).f1⟩ : S26), t777⟩ : S63)])) else (none))) else (none)) else (none)) else (some (x773000, x773001, x773002))
def spec_ProveBetween.l1 : Nat → List (S26) → ByteArray → ByteArray → Int → Int → Int → Int → Option (Int × Int × (List (S63)))
  | 0, _, _, _, _, _, _, _ => none
  | k + 1, x0, x1, x2, x8, x9, x773000, x773001 => if x9 < (x0.length : Int) then (if 0 ≤ x9 then ((spec_l3In.f ((rd_T26 x0 x9).f0) x1 x2).bind fun t775 => (if t775 = true then (spec_ProveBetween.l1 k x0 x1 x2 x8 (wrap64 (x9 + 1)) x773000 x773001) else (spec_ProveBetween.j3 k x0 x8 x9 x773000 x773001))) else (none)) else (spec_ProveBetween.j3 k x0 x8 x9 x773000 x773001)
def spec_ProveBetween.l0 : Nat → List (S26) → ByteArray → ByteArray → Int → Int → Int → Option (Int × Int × (List (S63)))
  | 0, _, _, _, _, _, _ => none
  | k + 1, x0, x1, x2, x8, x773000, x773001 => if x8 < (x0.length : Int) then (if 0 ≤ x8 then (if (Op.bytesLess (((rd_T26 x0 x8).f0).toList) x1.toList) = true then (spec_ProveBetween.l0 k x0 x1 x2 (wrap64 (x8 + 1)) x773000 x773001) else (spec_ProveBetween.j1 k x0 x1 x2 x8 x773000 x773001)) else (none)) else (spec_ProveBetween.j1 k x0 x1 x2 x8 x773000 x773001)
end
def spec_ProveBetween.f (k : Nat) (l0 : List (S26)) (a1 : ByteArray) (a2 : ByteArray) : Option (Int × Int × (List (S63))) := (spec_PairsOk.f k l0).bind fun t771 => (if t771 = true then (spec_ProveBetween.l0 k l0 a1 a2 0 (l0.length : Int) 0) else (some (0, 0, ([] : List (S63)))))
def spec_ProveBetween.T19 : Bool × List (List Nat × List Nat) := (true, [([], []), ([0], [0]), ([], []), ([], []), ([2, 3], [2, 3]), ([4], [4]), ([], []), ([], []), ([6, 7], [6, 7]), ([5, 8], [5, 8]), ([9], [9]), ([1, 10, 8], [1, 10]), ([0, 1, 2, 3, 4, 5, 6, 7, 8, 9, 10, 11], []), ([12, 11, 11, 0, 1, 2, 3, 4, 5, 6, 7, 8, 9, 10, 11], [11, 12])])
def spec_ProveBetween.B19 : List Nat := [0, 1, 0, 0, 12, 28, 0, 0, 192, 508, 1020, 2047, 4095, 8191]
theorem spec_ProveBetween.tab19 : rtab .any (opsOf Try.f37 19) = spec_ProveBetween.T19 := by kernel_rfl
theorem spec_ProveBetween.bits19 : waitsOk spec_ProveBetween.T19.2 spec_ProveBetween.B19 = true := by kernel_rfl
set_option maxHeartbeats 8000000 in
set_option maxRecDepth 100000 in
theorem spec_ProveBetween.calls (k : Nat) (A0 : Option Addr) (c0 : Nat) (l0 : List (S26)) (a1 : ByteArray) (a2 : ByteArray) (r1 : Int) (r2 : Int) (r3 : List (S63)) (w : World) (hr0 : Kd.C k26 w A0 l0.length l0) (hc0 : l0.length ≤ c0) (h : spec_ProveBetween.f k l0 a1 a2 = some (r1, r2, r3)) :
  Calls Try.prog 37 #[.slice A0 l0.length c0, .string a1, .string a2] w fun e w' => ∃ v2_ : Value, e = .returned (.agg #[.int .i64 r1, .int .i64 r2, v2_]) ∧ Kd.S k63 63 w' w.heap.size (fun _ => True) v2_ r3 ∧ Below w.heap.size w w' := by
  have hu44 := Try.underlying44
  have hu26 := Try.underlying26
  have hu63 := Try.underlying63
  have HR0 := Aside0.mk hr0
  have HC0 := Aside0.mk hc0
  clear hr0 hc0
  have HB := Aside0.mk (Below.refl w.heap.size w)
  have H : ((spec_PairsOk.f k l0).bind fun t771 => (if t771 = true then (spec_ProveBetween.l0 k l0 a1 a2 0 (l0.length : Int) 0) else (some (0, 0, ([] : List (S63)))))) = some (r1, r2, r3) := h
  clear h
  replace H := Option.bind_eq_some_iff.mp H
  obtain ⟨t771, A40, H⟩ := H
  have A4 := Aside0.mk A40
  clear A40
  by_cases c5 : t771 = true
  · subst c5
    have H1 : (spec_ProveBetween.l0 k l0 a1 a2 0 (l0.length : Int) 0) = some (r1, r2, r3) := by rw [if_pos rfl] at H; exact H
    clear H
    have H := H1
    clear H1
    have HC6 := Aside0.mk H
    clear H
    go_enter Try.func37, Try.ntmps37
    go_upto_block 0 with (first | ((with_reducible refine gate_dst (N := 6) rfl ?_); refine box_event ?hg (N := 6) ?hd (cs := #[.int .i64 0, .int .i64 0, .slice none 0 0]) (t := 44) ?hr ?_; (case hd => rfl); (case hg => rfl); (case hr => first | (go_simp; done) | (go_simp; rfl)); intro gb770 hg w7 hbox hb; have n0_ := Aside0.mk (below_step (be_ HB.out) hb); have n1_ := Aside0.mk (hbox); have n2_ := Aside0.mk ((by rw [hg]; exact (below_size (be_ HB.out)) : w.heap.size ≤ gb770)); have n3_ := Aside0.mk ((by rw [hg]; exact (below_size (be_ HB.out)) : w.heap.size ≤ gb770)); clear HB; have HB := n0_; have BK770 := n1_; have GW770 := n2_; have GE770 := n3_; clear n0_ n1_ n2_ n3_; clear hb hbox hg) | ((with_reducible refine gate_callee (f := 14) rfl ?_); refine goesL_ (some 12) rfl rfl Try.func14 (by kernel_rfl) rfl #[.slice A0 l0.length c0] rfl al_ ?_; (with_reducible refine (spec_PairsOk.calls k _ _ l0 true _ ?side1 ?side2 A4.out).mono ?_); (case side1 => exact kc_ (Kd.C_below HR0.out HB.out)); (case side2 => exact HC0.out); rintro e w8 ⟨rfl, hb⟩; refine ⟨_, rfl, ?_⟩; have n0_ := Aside0.mk (blk_below (g := gb770) (o := .cells #[.int .i64 0, .int .i64 0, .slice none 0 0] 44 (0, 0)) (bk_ BK770.out) hb); have n1_ := Aside0.mk (below_step (bs_ HB.out GE770.out) hb); clear BK770; clear HB; have BK770 := n0_; have HB := n1_; clear n0_ n1_; (try clear hb); (try clear hb2); (try clear hk); (try clear hi)) | ((with_reducible refine gate_dst (N := 7) rfl ?_); refine box_event ?hg (N := 7) ?hd (cs := #[.int .i64 0, .int .i64 0, .slice none 0 0]) (t := 44) ?hr ?_; (case hd => rfl); (case hg => rfl); (case hr => first | (go_simp; done) | (go_simp; rfl)); intro gb772 hg w9 hbox hb; have n0_ := Aside0.mk (blk_below (g := gb770) (o := .cells #[.int .i64 0, .int .i64 0, .slice none 0 0] 44 (0, 0)) (bk_ BK770.out) hb); have n1_ := Aside0.mk (below_step (bs_ HB.out GE770.out) hb); have n2_ := Aside0.mk (hbox); have n3_ := Aside0.mk ((by rw [hg]; exact (below_size (bs_ HB.out GE770.out)) : w.heap.size ≤ gb772)); have n4_ := Aside0.mk ((by rw [hg]; exact (below_size (bs_ HB.out GE770.out)) : w.heap.size ≤ gb772)); have n5_ := Aside0.mk ((by rw [hg]; exact Nat.ne_of_lt (blk_lt (g := gb770) (o := .cells #[.int .i64 0, .int .i64 0, .slice none 0 0] 44 (0, 0)) (bk_ BK770.out)) : gb770 ≠ gb772)); have n6_ := Aside0.mk ((by rw [hg]; exact Nat.ne_of_gt (blk_lt (g := gb770) (o := .cells #[.int .i64 0, .int .i64 0, .slice none 0 0] 44 (0, 0)) (bk_ BK770.out)) : gb772 ≠ gb770)); clear BK770; clear HB; have BK770 := n0_; have HB := n1_; have BK772 := n2_; have GW772 := n3_; have GE772 := n4_; have NB770_772 := n5_; have NB772_770 := n6_; clear n0_ n1_ n2_ n3_ n4_ n5_ n6_; clear hb hbox hg; have hnb10 := NB772_770.out; have hnc10 := NB770_772.out; have hcz11_0 : w9.cell? ⟨gb772, 0, none⟩ = some (.int .i64 0) := (blk_cell BK772.out 0).trans rfl; have hcz11_1 : w9.cell? ⟨gb772, 1, none⟩ = some (.int .i64 0) := (blk_cell BK772.out 1).trans rfl; have hcz11_2 : w9.cell? ⟨gb772, 2, none⟩ = some (.slice none 0 0) := (blk_cell BK772.out 2).trans rfl; have hfz11_0 := blk_frozen BK772.out 0; have hfz11_1 := blk_frozen BK772.out 1; have hfz11_2 := blk_frozen BK772.out 2))
    (try simp only [Act.put, sa_, sz_, ss_])
    go_cut [8] (fun v8 wc => ∃ (kq : Nat) (x8_5 : Int), v8 = .int .i64 x8_5 ∧ Aside0 (spec_ProveBetween.j1 kq l0 a1 a2 x8_5 (l0.length : Int) 0 = some (r1, r2, r3)) ∧ Aside0 (kq ≤ k) ∧ Aside0 (wc.heap[gb770]? = some (.cells #[.int .i64 0, .int .i64 0, (.slice none 0 0)] 44 (0, 0))) ∧ Aside0 (wc.heap[gb772]? = some (.cells #[.int .i64 (l0.length : Int), .int .i64 0, (.slice none 0 0)] 44 (0, 0))) ∧ Aside0 (Below w.heap.size w wc))
    case first =>
     have H := HC6.out
     clear HC6
     have H' := Aside0.mk H
     clear H
     go_wp2
     go_loopg [8] k (fun kq v8 w' => ∃ (x8_1 : Int), v8 = .int .i64 x8_1 ∧ Aside0 (spec_ProveBetween.l0 kq l0 a1 a2 x8_1 (l0.length : Int) 0 = some (r1, r2, r3)) ∧ Aside0 (kq ≤ k) ∧ Aside0 (w'.heap[gb770]? = some (.cells #[.int .i64 0, .int .i64 0, (.slice none 0 0)] 44 (0, 0))) ∧ Aside0 (w'.heap[gb772]? = some (.cells #[.int .i64 (l0.length : Int), .int .i64 0, (.slice none 0 0)] 44 (0, 0))) ∧ Aside0 (Below w.heap.size w w'))
     case atStart => exact ⟨(0), (by first | rfl | (simp; done) | (simp [*]; done)), H', ⟨Nat.le_refl _⟩, ⟨by (with_reducible repeat (first | refine blk_drewN ?_ _ | refine blk_drew ?_ | refine blk_alloc ?_ _)); refine blk_far ?_ NB770_772.out _; (with_reducible repeat (first | refine blk_drewN ?_ _ | refine blk_drew ?_ | refine blk_alloc ?_ _)); refine blk_far ?_ NB770_772.out _; (with_reducible repeat (first | refine blk_drewN ?_ _ | refine blk_drew ?_ | refine blk_alloc ?_ _)); refine blk_far ?_ NB770_772.out _; (with_reducible repeat (first | refine blk_drewN ?_ _ | refine blk_drew ?_ | refine blk_alloc ?_ _)); exact BK770.out⟩, ⟨by (with_reducible repeat (first | refine blk_drewN ?_ _ | refine blk_drew ?_ | refine blk_alloc ?_ _)); refine blk_put (cs := #[.int .i64 (l0.length : Int), .int .i64 0, .slice none 0 0]) ?_ 2 _ rfl; (with_reducible repeat (first | refine blk_drewN ?_ _ | refine blk_drew ?_ | refine blk_alloc ?_ _)); refine blk_put (cs := #[.int .i64 (l0.length : Int), .int .i64 0, .slice none 0 0]) ?_ 1 _ rfl; (with_reducible repeat (first | refine blk_drewN ?_ _ | refine blk_drew ?_ | refine blk_alloc ?_ _)); refine blk_put (cs := #[.int .i64 0, .int .i64 0, .slice none 0 0]) ?_ 0 _ rfl; (with_reducible repeat (first | refine blk_drewN ?_ _ | refine blk_drew ?_ | refine blk_alloc ?_ _)); exact BK772.out⟩, ⟨by repeat (first | (with_reducible first | exact HB.out | apply below_alloc | apply pw_below_drewN | apply below_drew1 | refine below_set ?_ GE770.out | refine below_set ?_ GE772.out) | exact HB.out)⟩⟩
     case round =>
      clear H'
      try clear c1
      try clear p2
      try clear c3
      try clear c5
      try clear c10
      try clear hcz11_0
      try clear hcz11_1
      try clear hcz11_2
      try clear hfz11_0
      try clear hfz11_1
      try clear hfz11_2
      obtain ⟨x8_1, rfl, HA, HK1, BK770, BK772, HB⟩ := hrel
      cases gk with
      | zero => exact absurd HA.out (by simp [spec_ProveBetween.l0])
      | succ k1 =>
       have H := HA.out
       clear HA
       simp only [spec_ProveBetween.l0] at H
       by_cases c12 : x8_1 < (l0.length : Int)
       · rw [if_pos c12] at H
         have c12b0 : decide (x8_1 < (l0.length : Int)) = true := decide_eq_true c12
         clear c12
         (first | rw [c12b0] | (simp only [i64_w, i32_w]; rw [c12b0]) | skip)
         by_cases c13 : 0 ≤ x8_1
         rotate_left
         · rw [if_neg c13] at H; exact absurd H (by simp)
         rw [if_pos c13] at H
         have c13b0 : decide (0 ≤ x8_1) = true := decide_eq_true c13
         clear c13
         by_cases c14 : (Op.bytesLess (((rd_T26 l0 x8_1).f0).toList) a1.toList) = true
         · rw [if_pos c14] at H
           have c14b0 : (Op.bytesLess (((rd_T26 l0 x8_1).f0).toList) a1.toList) = true := c14
           clear c14
           have H' := Aside0.mk H
           clear H
           have p773 : 0 ≤ (x8_1 : Int) := of_decide_eq_true (by first | (with_reducible assumption) | assumption)
           have q773 : x8_1 < (l0.length : Int) := of_decide_eq_true (by first | (with_reducible assumption) | assumption)
           obtain ⟨ad773, e773, hx773_0, hx773_1⟩ := at_T26 HR0.out x8_1 p773 q773
           cases e773
           replace hx773_0 := (HB.out.cell (World.block_lt_of_cell? w _ hx773_0)).trans hx773_0
           replace hx773_1 := (HB.out.cell (World.block_lt_of_cell? w _ hx773_1)).trans hx773_1
           replace p773 := eq_true p773
           replace q773 := eq_true q773
           go_wp2
           go_roundg k1
           case measure => have := HK1.out; omega
           case rel => exact ⟨(wrap64 (x8_1 + 1)), (by first | rfl | (simp; done) | (simp [*]; done)), H', ⟨by have := HK1.out; omega⟩, ⟨by (with_reducible repeat (first | refine blk_drewN ?_ _ | refine blk_drew ?_ | refine blk_alloc ?_ _)); exact BK770.out⟩, ⟨by (with_reducible repeat (first | refine blk_drewN ?_ _ | refine blk_drew ?_ | refine blk_alloc ?_ _)); exact BK772.out⟩, ⟨by repeat (first | (with_reducible first | exact HB.out | apply below_alloc | apply pw_below_drewN | apply below_drew1 | refine below_set ?_ GE770.out | refine below_set ?_ GE772.out) | exact HB.out)⟩⟩
         · rw [if_neg c14] at H
           have c14b0 : (Op.bytesLess (((rd_T26 l0 x8_1).f0).toList) a1.toList) = false := by simpa using c14
           clear c14
           have H' := Aside0.mk H
           clear H
           have p773 : 0 ≤ (x8_1 : Int) := of_decide_eq_true (by first | (with_reducible assumption) | assumption)
           have q773 : x8_1 < (l0.length : Int) := of_decide_eq_true (by first | (with_reducible assumption) | assumption)
           obtain ⟨ad773, e773, hx773_0, hx773_1⟩ := at_T26 HR0.out x8_1 p773 q773
           cases e773
           replace hx773_0 := (HB.out.cell (World.block_lt_of_cell? w _ hx773_0)).trans hx773_0
           replace hx773_1 := (HB.out.cell (World.block_lt_of_cell? w _ hx773_1)).trans hx773_1
           replace p773 := eq_true p773
           replace q773 := eq_true q773
           go_wp2
           go_meet
           case rel => exact ⟨_, (x8_1), (by first | rfl | (simp; done) | (simp [*]; done)), H', ⟨by have := HK1.out; first | omega | exact Nat.le_refl _⟩, ⟨by (with_reducible repeat (first | refine blk_drewN ?_ _ | refine blk_drew ?_ | refine blk_alloc ?_ _)); exact BK770.out⟩, ⟨by (with_reducible repeat (first | refine blk_drewN ?_ _ | refine blk_drew ?_ | refine blk_alloc ?_ _)); exact BK772.out⟩, ⟨by repeat (first | (with_reducible first | exact HB.out | apply below_alloc | apply pw_below_drewN | apply below_drew1 | refine below_set ?_ GE770.out | refine below_set ?_ GE772.out) | exact HB.out)⟩⟩
       · rw [if_neg c12] at H
         have c12b0 : decide (x8_1 < (l0.length : Int)) = false := decide_eq_false c12
         clear c12
         (first | rw [c12b0] | (simp only [i64_w, i32_w]; rw [c12b0]) | skip)
         have H' := Aside0.mk H
         clear H
         go_wp2
         go_meet
         case rel => exact ⟨_, (x8_1), (by first | rfl | (simp; done) | (simp [*]; done)), H', ⟨by have := HK1.out; first | omega | exact Nat.le_refl _⟩, ⟨by (with_reducible repeat (first | refine blk_drewN ?_ _ | refine blk_drew ?_ | refine blk_alloc ?_ _)); exact BK770.out⟩, ⟨by (with_reducible repeat (first | refine blk_drewN ?_ _ | refine blk_drew ?_ | refine blk_alloc ?_ _)); exact BK772.out⟩, ⟨by repeat (first | (with_reducible first | exact HB.out | apply below_alloc | apply pw_below_drewN | apply below_drew1 | refine below_set ?_ GE770.out | refine below_set ?_ GE772.out) | exact HB.out)⟩⟩
    case rest =>
     clear HC6
     try clear c1
     try clear p2
     try clear c3
     try clear c5
     try clear p6
     try clear p7
     try clear q7
     try clear hx7
     try clear c10
     try clear c12
     try clear c12b0
     try clear c13
     try clear c13b0
     try clear c14
     try clear c14b0
     try clear hcz11_0
     try clear hcz11_1
     try clear hcz11_2
     try clear hfz11_0
     try clear hfz11_1
     try clear hfz11_2
     try clear hx773_0
     try clear hx773_1
     try clear p2
     try clear p773
     try clear q773
     obtain ⟨kq, x8_5, rfl, HA, HJ5, BK770, BK772, HB⟩ := hcut
     cases kq with
     | zero => exact absurd HA.out (by simp [spec_ProveBetween.j1])
     | succ kj5 =>
      have H := HA.out
      clear HA
      simp only [spec_ProveBetween.j1] at H
      have HC15 := Aside0.mk H
      clear H
      go_upto_block 2 with (fail)
      go_cut [9] (fun v9 wc => ∃ (kq : Nat) (x9_14 : Int), v9 = .int .i64 x9_14 ∧ Aside0 (spec_ProveBetween.j3 kq l0 x8_5 x9_14 (l0.length : Int) 0 = some (r1, r2, r3)) ∧ Aside0 (kq ≤ kj5) ∧ Aside0 (wc.heap[gb770]? = some (.cells #[.int .i64 0, .int .i64 0, (.slice none 0 0)] 44 (0, 0))) ∧ Aside0 (wc.heap[gb772]? = some (.cells #[.int .i64 (l0.length : Int), .int .i64 0, (.slice none 0 0)] 44 (0, 0))) ∧ Aside0 (Below w.heap.size w wc))
      case first =>
       have H := HC15.out
       clear HC15
       have H' := Aside0.mk H
       clear H
       go_wp2
       go_loopg [9] kj5 (fun kq v9 w' => ∃ (x9_2 : Int), v9 = .int .i64 x9_2 ∧ Aside0 (spec_ProveBetween.l1 kq l0 a1 a2 x8_5 x9_2 (l0.length : Int) 0 = some (r1, r2, r3)) ∧ Aside0 (kq ≤ kj5) ∧ Aside0 (w'.heap[gb770]? = some (.cells #[.int .i64 0, .int .i64 0, (.slice none 0 0)] 44 (0, 0))) ∧ Aside0 (w'.heap[gb772]? = some (.cells #[.int .i64 (l0.length : Int), .int .i64 0, (.slice none 0 0)] 44 (0, 0))) ∧ Aside0 (Below w.heap.size w w'))
       case atStart => exact ⟨(x8_5), (by first | rfl | (simp; done) | (simp [*]; done)), H', ⟨Nat.le_refl _⟩, ⟨by (with_reducible repeat (first | refine blk_drewN ?_ _ | refine blk_drew ?_ | refine blk_alloc ?_ _)); exact BK770.out⟩, ⟨by (with_reducible repeat (first | refine blk_drewN ?_ _ | refine blk_drew ?_ | refine blk_alloc ?_ _)); exact BK772.out⟩, ⟨by repeat (first | (with_reducible first | exact HB.out | apply below_alloc | apply pw_below_drewN | apply below_drew1 | refine below_set ?_ GE770.out | refine below_set ?_ GE772.out) | exact HB.out)⟩⟩
       case round =>
        clear H'
        try clear c1
        try clear p2
        try clear c3
        try clear c5
        try clear p6
        try clear p7
        try clear q7
        try clear hx7
        try clear c10
        try clear c12
        try clear c12b0
        try clear c13
        try clear c13b0
        try clear c14
        try clear c14b0
        try clear hcz11_0
        try clear hcz11_1
        try clear hcz11_2
        try clear hfz11_0
        try clear hfz11_1
        try clear hfz11_2
        try clear hx773_0
        try clear hx773_1
        try clear p2
        try clear p6
        try clear p7
        try clear p773
        try clear q7
        try clear q773
        obtain ⟨x9_2, rfl, HA, HK2, BK770, BK772, HB⟩ := hrel
        cases gk with
        | zero => exact absurd HA.out (by simp [spec_ProveBetween.l1])
        | succ k2 =>
         have H := HA.out
         clear HA
         simp only [spec_ProveBetween.l1] at H
         by_cases c16 : x9_2 < (l0.length : Int)
         · rw [if_pos c16] at H
           have c16b0 : decide (x9_2 < (l0.length : Int)) = true := decide_eq_true c16
           clear c16
           (first | rw [c16b0] | (simp only [i64_w, i32_w]; rw [c16b0]) | skip)
           by_cases c17 : 0 ≤ x9_2
           rotate_left
           · rw [if_neg c17] at H; exact absurd H (by simp)
           rw [if_pos c17] at H
           have c17b0 : decide (0 ≤ x9_2) = true := decide_eq_true c17
           clear c17
           replace H := Option.bind_eq_some_iff.mp H
           obtain ⟨t775, A180, H⟩ := H
           have A18 := Aside0.mk A180
           clear A180
           by_cases c19 : t775 = true
           · subst c19
             have H1 : (spec_ProveBetween.l1 k2 l0 a1 a2 x8_5 (wrap64 (x9_2 + 1)) (l0.length : Int) 0) = some (r1, r2, r3) := by rw [if_pos rfl] at H; exact H
             clear H
             have H := H1
             clear H1
             have H' := Aside0.mk H
             clear H
             have p774 : 0 ≤ (x9_2 : Int) := of_decide_eq_true (by first | (with_reducible assumption) | assumption)
             have q774 : x9_2 < (l0.length : Int) := of_decide_eq_true (by first | (with_reducible assumption) | assumption)
             obtain ⟨ad774, e774, hx774_0, hx774_1⟩ := at_T26 HR0.out x9_2 p774 q774
             cases e774
             replace hx774_0 := (HB.out.cell (World.block_lt_of_cell? w _ hx774_0)).trans hx774_0
             replace hx774_1 := (HB.out.cell (World.block_lt_of_cell? w _ hx774_1)).trans hx774_1
             replace p774 := eq_true p774
             replace q774 := eq_true q774
             go_wp2_with (first | (go_at_call 73; (with_reducible refine (spec_l3In.calls ((rd_T26 l0 x9_2).f0) a1 a2 true _ A18.out).mono ?_); rintro e w' ⟨rfl, ⟨nd, rfl⟩⟩))
             go_roundg k2
             case measure => have := HJ5.out; have := HK2.out; omega
             case rel => exact ⟨(wrap64 (x9_2 + 1)), (by first | rfl | (simp; done) | (simp [*]; done)), H', ⟨by have := HJ5.out; have := HK2.out; omega⟩, ⟨by (with_reducible repeat (first | refine blk_drewN ?_ _ | refine blk_drew ?_ | refine blk_alloc ?_ _)); exact BK770.out⟩, ⟨by (with_reducible repeat (first | refine blk_drewN ?_ _ | refine blk_drew ?_ | refine blk_alloc ?_ _)); exact BK772.out⟩, ⟨by repeat (first | (with_reducible first | exact HB.out | apply below_alloc | apply pw_below_drewN | apply below_drew1 | refine below_set ?_ GE770.out | refine below_set ?_ GE772.out) | exact HB.out)⟩⟩
           · replace c19 := Bool.eq_false_iff.mpr c19
             subst c19
             have H1 : (spec_ProveBetween.j3 k2 l0 x8_5 x9_2 (l0.length : Int) 0) = some (r1, r2, r3) := by rw [if_neg (show ¬ (false = true) by decide)] at H; exact H
             clear H
             have H := H1
             clear H1
             have H' := Aside0.mk H
             clear H
             have p774 : 0 ≤ (x9_2 : Int) := of_decide_eq_true (by first | (with_reducible assumption) | assumption)
             have q774 : x9_2 < (l0.length : Int) := of_decide_eq_true (by first | (with_reducible assumption) | assumption)
             obtain ⟨ad774, e774, hx774_0, hx774_1⟩ := at_T26 HR0.out x9_2 p774 q774
             cases e774
             replace hx774_0 := (HB.out.cell (World.block_lt_of_cell? w _ hx774_0)).trans hx774_0
             replace hx774_1 := (HB.out.cell (World.block_lt_of_cell? w _ hx774_1)).trans hx774_1
             replace p774 := eq_true p774
             replace q774 := eq_true q774
             go_wp2_with (first | (go_at_call 73; (with_reducible refine (spec_l3In.calls ((rd_T26 l0 x9_2).f0) a1 a2 false _ A18.out).mono ?_); rintro e w' ⟨rfl, ⟨nd, rfl⟩⟩))
             go_meet
             case rel => exact ⟨_, (x9_2), (by first | rfl | (simp; done) | (simp [*]; done)), H', ⟨by have := HJ5.out; have := HK2.out; first | omega | exact Nat.le_refl _⟩, ⟨by (with_reducible repeat (first | refine blk_drewN ?_ _ | refine blk_drew ?_ | refine blk_alloc ?_ _)); exact BK770.out⟩, ⟨by (with_reducible repeat (first | refine blk_drewN ?_ _ | refine blk_drew ?_ | refine blk_alloc ?_ _)); exact BK772.out⟩, ⟨by repeat (first | (with_reducible first | exact HB.out | apply below_alloc | apply pw_below_drewN | apply below_drew1 | refine below_set ?_ GE770.out | refine below_set ?_ GE772.out) | exact HB.out)⟩⟩
         · rw [if_neg c16] at H
           have c16b0 : decide (x9_2 < (l0.length : Int)) = false := decide_eq_false c16
           clear c16
           (first | rw [c16b0] | (simp only [i64_w, i32_w]; rw [c16b0]) | skip)
           have H' := Aside0.mk H
           clear H
           go_wp2
           go_meet
           case rel => exact ⟨_, (x9_2), (by first | rfl | (simp; done) | (simp [*]; done)), H', ⟨by have := HJ5.out; have := HK2.out; first | omega | exact Nat.le_refl _⟩, ⟨by (with_reducible repeat (first | refine blk_drewN ?_ _ | refine blk_drew ?_ | refine blk_alloc ?_ _)); exact BK770.out⟩, ⟨by (with_reducible repeat (first | refine blk_drewN ?_ _ | refine blk_drew ?_ | refine blk_alloc ?_ _)); exact BK772.out⟩, ⟨by repeat (first | (with_reducible first | exact HB.out | apply below_alloc | apply pw_below_drewN | apply below_drew1 | refine below_set ?_ GE770.out | refine below_set ?_ GE772.out) | exact HB.out)⟩⟩
      case rest =>
       clear HC15
       try clear c1
       try clear p2
       try clear c3
       try clear c5
       try clear p6
       try clear p7
       try clear q7
       try clear hx7
       try clear c10
       try clear c12
       try clear c12b0
       try clear c13
       try clear c13b0
       try clear c14
       try clear c14b0
       try clear c16
       try clear c16b0
       try clear c17
       try clear c17b0
       try clear c19
       try clear hcz11_0
       try clear hcz11_1
       try clear hcz11_2
       try clear hfz11_0
       try clear hfz11_1
       try clear hfz11_2
       try clear hx773_0
       try clear hx773_1
       try clear hx774_0
       try clear hx774_1
       try clear p2
       try clear p6
       try clear p7
       try clear p773
       try clear p774
       try clear q7
       try clear q773
       try clear q774
       obtain ⟨kq, x9_14, rfl, HA, HJ14, BK770, BK772, HB⟩ := hcut
       cases kq with
       | zero => exact absurd HA.out (by simp [spec_ProveBetween.j3])
       | succ kj14 =>
        have H := HA.out
        clear HA
        simp only [spec_ProveBetween.j3] at H
        have HC20 := Aside0.mk H
        clear H
        go_upto_if 51 with (fail)
        go_cut [8] (fun v8 wc => ∃ (kq : Nat) (x8_19 : Int), v8 = .int .i64 x8_19 ∧ Aside0 (spec_ProveBetween.j4 kq l0 x8_19 x9_14 (l0.length : Int) 0 = some (r1, r2, r3)) ∧ Aside0 (kq ≤ kj14) ∧ Aside0 (wc.heap[gb770]? = some (.cells #[.int .i64 0, .int .i64 0, (.slice none 0 0)] 44 (0, 0))) ∧ Aside0 (wc.heap[gb772]? = some (.cells #[.int .i64 (l0.length : Int), .int .i64 0, (.slice none 0 0)] 44 (0, 0))) ∧ Aside0 (Below w.heap.size w wc))
        case first =>
         have H := HC20.out
         clear HC20
         by_cases c21 : x8_5 > 0
         · rw [if_pos c21] at H
           have c21b0 : decide (0 < x8_5) = true := decide_eq_true c21
           clear c21
           (first | rw [c21b0] | (simp only [i64_w, i32_w]; rw [c21b0]) | skip)
           have H' := Aside0.mk H
           clear H
           go_wp2
           go_meet
           case rel => exact ⟨_, (wrap64 (x8_5 - 1)), (by first | rfl | (simp; done) | (simp [*]; done)), H', ⟨by have := HJ5.out; have := HJ14.out; first | omega | exact Nat.le_refl _⟩, ⟨by (with_reducible repeat (first | refine blk_drewN ?_ _ | refine blk_drew ?_ | refine blk_alloc ?_ _)); exact BK770.out⟩, ⟨by (with_reducible repeat (first | refine blk_drewN ?_ _ | refine blk_drew ?_ | refine blk_alloc ?_ _)); exact BK772.out⟩, ⟨by repeat (first | (with_reducible first | exact HB.out | apply below_alloc | apply pw_below_drewN | apply below_drew1 | refine below_set ?_ GE770.out | refine below_set ?_ GE772.out) | exact HB.out)⟩⟩
         · rw [if_neg c21] at H
           have c21b0 : decide (0 < x8_5) = false := decide_eq_false c21
           clear c21
           (first | rw [c21b0] | (simp only [i64_w, i32_w]; rw [c21b0]) | skip)
           have H' := Aside0.mk H
           clear H
           go_wp2
           go_meet
           case rel => exact ⟨_, (x8_5), (by first | rfl | (simp; done) | (simp [*]; done)), H', ⟨by have := HJ5.out; have := HJ14.out; first | omega | exact Nat.le_refl _⟩, ⟨by (with_reducible repeat (first | refine blk_drewN ?_ _ | refine blk_drew ?_ | refine blk_alloc ?_ _)); exact BK770.out⟩, ⟨by (with_reducible repeat (first | refine blk_drewN ?_ _ | refine blk_drew ?_ | refine blk_alloc ?_ _)); exact BK772.out⟩, ⟨by repeat (first | (with_reducible first | exact HB.out | apply below_alloc | apply pw_below_drewN | apply below_drew1 | refine below_set ?_ GE770.out | refine below_set ?_ GE772.out) | exact HB.out)⟩⟩
        case rest =>
         clear HC20
         try clear c1
         try clear c2
         try clear p2
         try clear c3
         try clear c5
         try clear p6
         try clear p7
         try clear q7
         try clear hx7
         try clear c10
         try clear c12
         try clear c12b0
         try clear c13
         try clear c13b0
         try clear c14
         try clear c14b0
         try clear c16
         try clear c16b0
         try clear c17
         try clear c17b0
         try clear c19
         try clear c21
         try clear c21b0
         try clear hcz11_0
         try clear hcz11_1
         try clear hcz11_2
         try clear hfz11_0
         try clear hfz11_1
         try clear hfz11_2
         try clear hx773_0
         try clear hx773_1
         try clear hx774_0
         try clear hx774_1
         try clear p2
         try clear p6
         try clear p7
         try clear p773
         try clear p774
         try clear q7
         try clear q773
         try clear q774
         obtain ⟨kq, x8_19, rfl, HA, HJ19, BK770, BK772, HB⟩ := hcut
         cases kq with
         | zero => exact absurd HA.out (by simp [spec_ProveBetween.j4])
         | succ kj19 =>
          have H := HA.out
          clear HA
          simp only [spec_ProveBetween.j4] at H
          have HC22 := Aside0.mk H
          clear H
          go_upto_if 57 with (fail)
          go_cut [9] (fun v9 wc => ∃ (kq : Nat) (x9_21 : Int), v9 = .int .i64 x9_21 ∧ Aside0 (spec_ProveBetween.j5 kq l0 x8_19 x9_21 (l0.length : Int) 0 = some (r1, r2, r3)) ∧ Aside0 (kq ≤ kj19) ∧ Aside0 (wc.heap[gb770]? = some (.cells #[.int .i64 0, .int .i64 0, (.slice none 0 0)] 44 (0, 0))) ∧ Aside0 (wc.heap[gb772]? = some (.cells #[.int .i64 (l0.length : Int), .int .i64 0, (.slice none 0 0)] 44 (0, 0))) ∧ Aside0 (Below w.heap.size w wc))
          case first =>
           have H := HC22.out
           clear HC22
           by_cases c23 : x9_14 < (l0.length : Int)
           · rw [if_pos c23] at H
             have c23b0 : decide (x9_14 < (l0.length : Int)) = true := decide_eq_true c23
             clear c23
             (first | rw [c23b0] | (simp only [i64_w, i32_w]; rw [c23b0]) | skip)
             have H' := Aside0.mk H
             clear H
             go_wp2
             go_meet
             case rel => exact ⟨_, (wrap64 (x9_14 + 1)), (by first | rfl | (simp; done) | (simp [*]; done)), H', ⟨by have := HJ5.out; have := HJ14.out; have := HJ19.out; first | omega | exact Nat.le_refl _⟩, ⟨by (with_reducible repeat (first | refine blk_drewN ?_ _ | refine blk_drew ?_ | refine blk_alloc ?_ _)); exact BK770.out⟩, ⟨by (with_reducible repeat (first | refine blk_drewN ?_ _ | refine blk_drew ?_ | refine blk_alloc ?_ _)); exact BK772.out⟩, ⟨by repeat (first | (with_reducible first | exact HB.out | apply below_alloc | apply pw_below_drewN | apply below_drew1 | refine below_set ?_ GE770.out | refine below_set ?_ GE772.out) | exact HB.out)⟩⟩
           · rw [if_neg c23] at H
             have c23b0 : decide (x9_14 < (l0.length : Int)) = false := decide_eq_false c23
             clear c23
             (first | rw [c23b0] | (simp only [i64_w, i32_w]; rw [c23b0]) | skip)
             have H' := Aside0.mk H
             clear H
             go_wp2
             go_meet
             case rel => exact ⟨_, (x9_14), (by first | rfl | (simp; done) | (simp [*]; done)), H', ⟨by have := HJ5.out; have := HJ14.out; have := HJ19.out; first | omega | exact Nat.le_refl _⟩, ⟨by (with_reducible repeat (first | refine blk_drewN ?_ _ | refine blk_drew ?_ | refine blk_alloc ?_ _)); exact BK770.out⟩, ⟨by (with_reducible repeat (first | refine blk_drewN ?_ _ | refine blk_drew ?_ | refine blk_alloc ?_ _)); exact BK772.out⟩, ⟨by repeat (first | (with_reducible first | exact HB.out | apply below_alloc | apply pw_below_drewN | apply below_drew1 | refine below_set ?_ GE770.out | refine below_set ?_ GE772.out) | exact HB.out)⟩⟩
          case rest =>
           clear HC22
           try clear c1
           try clear c2
           try clear p2
           try clear c3
           try clear c5
           try clear p6
           try clear p7
           try clear q7
           try clear hx7
           try clear c10
           try clear c12
           try clear c12b0
           try clear c13
           try clear c13b0
           try clear c14
           try clear c14b0
           try clear c16
           try clear c16b0
           try clear c17
           try clear c17b0
           try clear c19
           try clear c21
           try clear c21b0
           try clear c23
           try clear c23b0
           try clear hcz11_0
           try clear hcz11_1
           try clear hcz11_2
           try clear hfz11_0
           try clear hfz11_1
           try clear hfz11_2
           try clear hx773_0
           try clear hx773_1
           try clear hx774_0
           try clear hx774_1
           try clear p2
           try clear p6
           try clear p7
           try clear p773
           try clear p774
           try clear q7
           try clear q773
           try clear q774
           obtain ⟨kq, x9_21, rfl, HA, HJ21, BK770, BK772, HB⟩ := hcut
           cases kq with
           | zero => exact absurd HA.out (by simp [spec_ProveBetween.j5])
           | succ kj21 =>
            have H := HA.out
            clear HA
            simp only [spec_ProveBetween.j5] at H
            have HC24 := Aside0.mk H
            clear H
            go_upto_if 62 with (fail)
            go_cut [] (fun wc => ∃ (kq : Nat) (x773001_23 : Int), Aside0 (spec_ProveBetween.j6 kq l0 x8_19 x9_21 (l0.length : Int) x773001_23 = some (r1, r2, r3)) ∧ Aside0 (kq ≤ kj21) ∧ Aside0 (wc.heap[gb770]? = some (.cells #[.int .i64 0, .int .i64 0, (.slice none 0 0)] 44 (0, 0))) ∧ Aside0 (wc.heap[gb772]? = some (.cells #[.int .i64 (l0.length : Int), .int .i64 x773001_23, (.slice none 0 0)] 44 (0, 0))) ∧ Aside0 (Below w.heap.size w wc))
            case first =>
             have H := HC24.out
             clear HC24
             by_cases c25 : x8_19 < x9_21
             · rw [if_pos c25] at H
               have c25b0 : decide (x8_19 < x9_21) = true := decide_eq_true c25
               clear c25
               (first | rw [c25b0] | (simp only [i64_w, i32_w]; rw [c25b0]) | skip)
               have H' := Aside0.mk H
               clear H
               have hnb26 := NB772_770.out
               have hnc26 := NB770_772.out
               have hcz27_0 : wc.cell? ⟨gb772, 0, none⟩ = some (.int .i64 (l0.length : Int)) := (blk_cell BK772.out 0).trans rfl
               have hcz27_1 : wc.cell? ⟨gb772, 1, none⟩ = some (.int .i64 0) := (blk_cell BK772.out 1).trans rfl
               have hcz27_2 : wc.cell? ⟨gb772, 2, none⟩ = some (.slice none 0 0) := (blk_cell BK772.out 2).trans rfl
               have hfz27_0 := blk_frozen BK772.out 0
               have hfz27_1 := blk_frozen BK772.out 1
               have hfz27_2 := blk_frozen BK772.out 2
               go_wp2
               go_meet
               case rel => exact ⟨_, (x8_19), H', ⟨by have := HJ5.out; have := HJ14.out; have := HJ19.out; have := HJ21.out; first | omega | exact Nat.le_refl _⟩, ⟨by (with_reducible repeat (first | refine blk_drewN ?_ _ | refine blk_drew ?_ | refine blk_alloc ?_ _)); refine blk_far ?_ NB770_772.out _; (with_reducible repeat (first | refine blk_drewN ?_ _ | refine blk_drew ?_ | refine blk_alloc ?_ _)); exact BK770.out⟩, ⟨by (with_reducible repeat (first | refine blk_drewN ?_ _ | refine blk_drew ?_ | refine blk_alloc ?_ _)); refine blk_put (cs := #[.int .i64 (l0.length : Int), .int .i64 0, .slice none 0 0]) ?_ 1 _ rfl; (with_reducible repeat (first | refine blk_drewN ?_ _ | refine blk_drew ?_ | refine blk_alloc ?_ _)); exact BK772.out⟩, ⟨by repeat (first | (with_reducible first | exact HB.out | apply below_alloc | apply pw_below_drewN | apply below_drew1 | refine below_set ?_ GE770.out | refine below_set ?_ GE772.out) | exact HB.out)⟩⟩
             · rw [if_neg c25] at H
               have c25b0 : decide (x8_19 < x9_21) = false := decide_eq_false c25
               clear c25
               (first | rw [c25b0] | (simp only [i64_w, i32_w]; rw [c25b0]) | skip)
               have H' := Aside0.mk H
               clear H
               go_wp2
               go_meet
               case rel => exact ⟨_, (0), H', ⟨by have := HJ5.out; have := HJ14.out; have := HJ19.out; have := HJ21.out; first | omega | exact Nat.le_refl _⟩, ⟨by (with_reducible repeat (first | refine blk_drewN ?_ _ | refine blk_drew ?_ | refine blk_alloc ?_ _)); exact BK770.out⟩, ⟨by (with_reducible repeat (first | refine blk_drewN ?_ _ | refine blk_drew ?_ | refine blk_alloc ?_ _)); exact BK772.out⟩, ⟨by repeat (first | (with_reducible first | exact HB.out | apply below_alloc | apply pw_below_drewN | apply below_drew1 | refine below_set ?_ GE770.out | refine below_set ?_ GE772.out) | exact HB.out)⟩⟩
            case rest =>
             clear HC24
             try clear c1
             try clear c2
             try clear p2
             try clear c3
             try clear c5
             try clear p6
             try clear p7
             try clear q7
             try clear hx7
             try clear c10
             try clear c12
             try clear c12b0
             try clear c13
             try clear c13b0
             try clear c14
             try clear c14b0
             try clear c16
             try clear c16b0
             try clear c17
             try clear c17b0
             try clear c19
             try clear c21
             try clear c21b0
             try clear c23
             try clear c23b0
             try clear c25
             try clear c25b0
             try clear c26
             try clear hcz11_0
             try clear hcz11_1
             try clear hcz11_2
             try clear hcz27_0
             try clear hcz27_1
             try clear hcz27_2
             try clear hfz11_0
             try clear hfz11_1
             try clear hfz11_2
             try clear hfz27_0
             try clear hfz27_1
             try clear hfz27_2
             try clear hx773_0
             try clear hx773_1
             try clear hx774_0
             try clear hx774_1
             try clear p2
             try clear p6
             try clear p7
             try clear p773
             try clear p774
             try clear q7
             try clear q773
             try clear q774
             obtain ⟨kq, x773001_23, HA, HJ23, BK770, BK772, HB⟩ := hcut
             cases kq with
             | zero => exact absurd HA.out (by simp [spec_ProveBetween.j6])
             | succ kj23 =>
              have H := HA.out
              clear HA
              simp only [spec_ProveBetween.j6] at H
              have H' := Aside0.mk H
              clear H
              go_wp2
              go_loopg [10] kj23 (fun kq v10 w' => ∃ (x10_6 : Int) (x773002_6 : List (S63)) (u773002 : Value), v10 = .int .i64 x10_6 ∧ Aside0 (spec_ProveBetween.l2 kq l0 x9_21 x10_6 (l0.length : Int) x773001_23 x773002_6 = some (r1, r2, r3)) ∧ Aside0 (kq ≤ kj23) ∧ Aside0 (Kd.S k63 63 w' w.heap.size (fun _ => True) u773002 x773002_6) ∧ Aside0 (w'.heap[gb770]? = some (.cells #[.int .i64 0, .int .i64 0, (.slice none 0 0)] 44 (0, 0))) ∧ Aside0 (w'.heap[gb772]? = some (.cells #[.int .i64 (l0.length : Int), .int .i64 x773001_23, u773002] 44 (0, 0))) ∧ Aside0 (Below w.heap.size w w'))
              case atStart => exact ⟨(x8_19), (([] : List (S63))), (.slice none 0 0), (by first | rfl | (simp; done) | (simp [*]; done)), H', ⟨Nat.le_refl _⟩, ⟨by first | exact Kd.S_nil _ _ _ _ _ | exact Kd.N_nil _ _ _ _ _ | exact Kd.V_nil _ _ _ _ _ | exact Kd.Q_nil _ _ _ _ _ | exact Kd.R_nil _ _ _ _ _⟩, ⟨by (with_reducible repeat (first | refine blk_drewN ?_ _ | refine blk_drew ?_ | refine blk_alloc ?_ _)); exact BK770.out⟩, ⟨by (with_reducible repeat (first | refine blk_drewN ?_ _ | refine blk_drew ?_ | refine blk_alloc ?_ _)); exact BK772.out⟩, ⟨by repeat (first | (with_reducible first | exact HB.out | apply below_alloc | apply pw_below_drewN | apply below_drew1 | refine below_set ?_ GE770.out | refine below_set ?_ GE772.out) | exact HB.out)⟩⟩
              case round =>
               clear H'
               try clear c1
               try clear c2
               try clear p2
               try clear c3
               try clear c5
               try clear p6
               try clear p7
               try clear q7
               try clear hx7
               try clear c10
               try clear c12
               try clear c12b0
               try clear c13
               try clear c13b0
               try clear c14
               try clear c14b0
               try clear c16
               try clear c16b0
               try clear c17
               try clear c17b0
               try clear c19
               try clear c21
               try clear c21b0
               try clear c23
               try clear c23b0
               try clear c25
               try clear c25b0
               try clear c26
               try clear hcz11_0
               try clear hcz11_1
               try clear hcz11_2
               try clear hcz27_0
               try clear hcz27_1
               try clear hcz27_2
               try clear hfz11_0
               try clear hfz11_1
               try clear hfz11_2
               try clear hfz27_0
               try clear hfz27_1
               try clear hfz27_2
               try clear hx773_0
               try clear hx773_1
               try clear hx774_0
               try clear hx774_1
               try clear p2
               try clear p6
               try clear p7
               try clear p773
               try clear p774
               try clear q7
               try clear q773
               try clear q774
               obtain ⟨x10_6, x773002_6, u773002, rfl, HA, HK6, HO_773002, BK770, BK772, HB⟩ := hrel
               cases gk with
               | zero => exact absurd HA.out (by simp [spec_ProveBetween.l2])
               | succ k6 =>
                have H := HA.out
                clear HA
                simp only [spec_ProveBetween.l2] at H
                by_cases c28 : x10_6 < x9_21
                · rw [if_pos c28] at H
                  have c28b0 : decide (x10_6 < x9_21) = true := decide_eq_true c28
                  clear c28
                  by_cases c29 : 0 ≤ x10_6
                  rotate_left
                  · rw [if_neg c29] at H; exact absurd H (by simp)
                  rw [if_pos c29] at H
                  have c29b0 : decide (0 ≤ x10_6) = true := decide_eq_true c29
                  clear c29
                  by_cases c30 : x10_6 < (l0.length : Int)
                  rotate_left
                  · rw [if_neg c30] at H; exact absurd H (by simp)
                  rw [if_pos c30] at H
                  have c30b0 : decide (x10_6 < (l0.length : Int)) = true := decide_eq_true c30
                  clear c30
                  replace H := Option.bind_eq_some_iff.mp H
                  obtain ⟨t777, A310, H⟩ := H
                  have A31 := Aside0.mk A310
                  clear A310
                  by_cases c32 : x773002_6.length < 2513169434916
                  rotate_left
                  · rw [if_neg c32] at H; exact absurd H (by simp)
                  rw [if_pos c32] at H
                  have LMc32 := Aside0.mk c32
                  clear c32
                  obtain ⟨y780, hy780⟩ : ∃ y_ : List (S63), y_ = (x773002_6 ++ [(⟨(⟨(rd_T26 l0 x10_6).f0, (rd_T26 l0 x10_6).f1⟩ : S26), t777⟩ : S63)]) := ⟨_, rfl⟩
                  replace H : (spec_ProveBetween.l2 k6 l0 x9_21 (wrap64 (x10_6 + 1)) (l0.length : Int) x773001_23 y780) = some (r1, r2, r3) := by first | (rw [hy780]; with_reducible exact H) | (have H2_ := (Option.bind_some _ _).symm.trans H; rw [hy780]; with_reducible exact H2_) | (have H2_ := (Option.bind_some _ _).symm.trans H; with_reducible exact H2_) | with_reducible exact H | (rw [hy780]; exact H) | exact H
                  have Ny780 := Aside0.mk hy780
                  clear hy780
                  have H' := Aside0.mk H
                  clear H
                  try go_wp2
                  have n0_ := Aside0.mk (Kd.S_drew HO_773002.out)
                  have n1_ := Aside0.mk (blk_drew BK770.out)
                  have n2_ := Aside0.mk (blk_drew BK772.out)
                  have n3_ := Aside0.mk (below_drew1 HB.out)
                  clear HO_773002
                  clear BK770
                  clear BK772
                  clear HB
                  have HO_773002 := n0_
                  have BK770 := n1_
                  have BK772 := n2_
                  have HB := n3_
                  clear n0_ n1_ n2_ n3_
                  have p776 : 0 ≤ (x10_6 : Int) := of_decide_eq_true (by first | (with_reducible assumption) | assumption)
                  have q776 : x10_6 < (l0.length : Int) := of_decide_eq_true (by first | (with_reducible assumption) | assumption)
                  obtain ⟨ad776, e776, hx776_0, hx776_1⟩ := at_T26 HR0.out x10_6 p776 q776
                  have hw776_1 := hx776_1
                  have hw776_0 := hx776_0
                  cases e776
                  replace hx776_0 := (HB.out.cell (World.block_lt_of_cell? w _ hx776_0)).trans hx776_0
                  replace hx776_1 := (HB.out.cell (World.block_lt_of_cell? w _ hx776_1)).trans hx776_1
                  replace p776 := eq_true p776
                  replace q776 := eq_true q776
                  refine start_ (n := 14) (S := fun w' => w'.cell? ⟨gb772, 0, none⟩ = some (.int .i64 (l0.length : Int)) ∧ w'.cell? ⟨gb772, 1, none⟩ = some (.int .i64 x773001_23) ∧ w'.cell? ⟨gb772, 2, none⟩ = some (u773002) ∧ w'.cell? (ad776.add ((x10_6).toNat * 2)) = some (.string ((rd_T26 l0 x10_6).f0)) ∧ w'.cell? ⟨(ad776.add ((x10_6).toNat * 2)).block, (ad776.add ((x10_6).toNat * 2)).off + 1, none⟩ = some (.string ((rd_T26 l0 x10_6).f1))) (ds := [13]) (bq_ 0 14) (by kernel_rfl) rfl rfl ⟨(blk_cell BK772.out 0).trans rfl, (blk_cell BK772.out 1).trans rfl, (blk_cell BK772.out 2).trans rfl, ((HB.out.cell (World.block_lt_of_cell? w _ hw776_0)).trans hw776_0), ((HB.out.cell (World.block_lt_of_cell? w _ hw776_1)).trans hw776_1)⟩ (fun hHeld => ?_); refine with_tabW spec_ProveBetween.tab19 spec_ProveBetween.bits19 (fun HT_ HW_ => ?_)
                  generalize wr.drew = w33 at HO_773002 BK770 BK772 HB hx776_0 hx776_1 hHeld ⊢
                  refine pu_ 0 (some 71) (bq_ 1 13) HT_ ?_
                  refine pu_ 2 (some 73) #[true, false, true, false, false, false, false, false, false, false, false, false, false, false] HT_ ?_
                  refine pu_ 3 (some 74) #[true, false, true, true, false, false, false, false, false, false, false, false, false, false] HT_ ?_
                  refine pu_ 4 (some 75) #[true, false, true, true, true, false, false, false, false, false, false, false, false, false] HT_ ?_
                  refine pu_ 6 (some 77) #[true, false, true, true, true, false, true, false, false, false, false, false, false, false] HT_ ?_
                  refine pu_ 7 (some 78) #[true, false, true, true, true, false, true, true, false, false, false, false, false, false] HT_ ?_
                  refine take_ (i := 1) (N := some 72) (v := ?_) (a' := ?_) #[true, true, true, true, true, false, true, true, false, false, false, false, false, false] rfl rfl (take_ofW HT_.out HW_.out (by kernel_rfl)) (fun _ _ _ h => h) (Or.inl ⟨by rfl, ?_⟩) hHeld ?_ ?_
                  rotate_left
                  · rintro w' ⟨s0, s1, s2, s3, s4⟩
                    go_simp
                    with_reducible rfl
                  rotate_left
                  · simp only [Act.put, sa_, sz_, ss_, i64_w, i32_w]; rfl
                  refine take_ (i := 5) (N := some 76) (v := ?_) (a' := ?_) (bq_ 8 6) rfl rfl (take_ofW HT_.out HW_.out (by kernel_rfl)) (fun _ _ _ h => h) (Or.inl ⟨by rfl, ?_⟩) hHeld ?_ ?_
                  rotate_left
                  · rintro w' ⟨s0, s1, s2, s3, s4⟩
                    go_simp
                    with_reducible rfl
                  rotate_left
                  · simp only [Act.put, sa_, sz_, ss_, i64_w, i32_w]; rfl
                  refine on_ 8 (some 79) (bq_ 9 5) HT_ (fun K hK => ?_)
                  refine goes_ Try.func50 (by kernel_rfl) rfl #[.slice (some ad776) l0.length c0, .int .i64 x10_6] (by rfl) rfl rfl al_ ?_
                  with_reducible refine (spec_l4Path.calls k6 _ _ l0 x10_6 t777 _ ?side1 ?side2 A31.out).mono ?_
                  (case side1 => exact kc_ (Kd.C_below HR0.out HB.out))
                  (case side2 => exact HC0.out)
                  rintro e w34 ⟨v778, rfl, ho0, hb⟩
                  refine ⟨_, rfl, ?_⟩
                  have n0_ := Aside0.mk (Kd.S_elder' (by (with_reducible repeat (first | apply Kd.S_alloc | apply Kd.S_drewN | apply Kd.S_drew)); exact HO_773002.out) (Kd.R_base ho0) hb)
                  have n1_ := Aside0.mk (Kd.R_lower ho0 (below_size (by repeat (first | (with_reducible first | exact HB.out | apply below_alloc | apply pw_below_drewN | apply below_drew1 | refine below_set ?_ GE770.out | refine below_set ?_ GE772.out) | exact HB.out))))
                  have n2_ := Aside0.mk (blk_below (g := gb770) (o := .cells #[.int .i64 0, .int .i64 0, .slice none 0 0] 44 (0, 0)) (bk_ BK770.out) hb)
                  have n3_ := Aside0.mk (blk_below (g := gb772) (o := .cells #[.int .i64 (l0.length : Int), .int .i64 x773001_23, u773002] 44 (0, 0)) (bk_ BK772.out) hb)
                  have n4_ := Aside0.mk (below_step (by repeat (first | (with_reducible first | exact HB.out | apply below_alloc | apply pw_below_drewN | apply below_drew1 | refine below_set ?_ GE770.out | refine below_set ?_ GE772.out) | exact HB.out)) hb)
                  clear HO_773002
                  clear BK770
                  clear BK772
                  clear HB
                  have HO_773002 := n0_
                  have HO779 := n1_
                  have BK770 := n2_
                  have BK772 := n3_
                  have HB := n4_
                  clear n0_ n1_ n2_ n3_ n4_
                  (try clear hb)
                  (try clear hb2)
                  (try clear hk)
                  (try clear hi)
                  (try clear ho0)
                  obtain ⟨Ao35, co35, eo35⟩ := Kd.R_slice HO779.out
                  (first | subst eo35 | (injection eo35 with f1_ f2_ f3_; have f4_ := f1_.symm; have f5_ := f3_.symm; clear f1_ f2_ f3_; subst f4_; subst f5_))
                  refine hK.out _ _ ⟨(blk_cell BK772.out 0).trans rfl, (blk_cell BK772.out 1).trans rfl, (blk_cell BK772.out 2).trans rfl, ((HB.out.cell (World.block_lt_of_cell? w _ hw776_0)).trans hw776_0), ((HB.out.cell (World.block_lt_of_cell? w _ hw776_1)).trans hw776_1)⟩ (fun hHeld => ?_)
                  clear hK K
                  refine nm_ ?_
                  refine pu_ 9 (some 80) (bq_ 10 4) HT_ ?_
                  refine on_ 10 (some 81) (bq_ 11 3) HT_ (fun K hK => ?_)
                  refine value_ (w1 := ?_) (v := ?_) (by rfl) rfl ?_ ?_
                  rotate_left 2
                  · go_simp
                    constructor
                    · rfl
                    · rfl
                  refine hK.out _ _ ⟨(blk_cell (blk_alloc BK772.out _) 0).trans rfl, (blk_cell (blk_alloc BK772.out _) 1).trans rfl, (blk_cell (blk_alloc BK772.out _) 2).trans rfl, (World.cell?_alloc_lt _ _ _ (World.block_lt_of_cell? _ _ (((HB.out.cell (World.block_lt_of_cell? w _ hw776_0)).trans hw776_0)))).trans (((HB.out.cell (World.block_lt_of_cell? w _ hw776_0)).trans hw776_0)), (World.cell?_alloc_lt _ _ _ (World.block_lt_of_cell? _ _ (((HB.out.cell (World.block_lt_of_cell? w _ hw776_1)).trans hw776_1)))).trans (((HB.out.cell (World.block_lt_of_cell? w _ hw776_1)).trans hw776_1))⟩ (fun hHeld => ?_)
                  clear hK K
                  refine nm_ ?_
                  refine on_ 11 (some 82) (bq_ 12 2) HT_ (fun K hK => ?_)
                  refine Kd.S_append_step k63 (w0 := w) w.heap.size (by rfl) (.tmp 72) (.tmp 81) 42 63 (.agg #[(.string ⟨#[]⟩), (.string ⟨#[]⟩), (.slice none 0 0)]) 56 rfl Try.underlying42 info63 rfl (by decide) (by omega) u773002 x773002_6 (⟨(⟨(rd_T26 l0 x10_6).f0, (rd_T26 l0 x10_6).f1⟩ : S26), t777⟩ : S63) [.string ((rd_T26 l0 x10_6).f0), .string ((rd_T26 l0 x10_6).f1), .slice Ao35 t777.length co35] (fun _ => True) (fun k_ => some k_ = (.slice Ao35 t777.length co35 : Value).ownBlock) rfl rfl ?aP (fun k_ hk_ => ((Kd.R_mono (ok' := fun k_ => ((fun _ => True)) k_ ∧ some k_ ≠ (u773002 : Value).ownBlock) (Kd.R_apart' (HO779.out) (Kd.S_typed HO_773002.out) (by decide)) (fun k_ hk => ⟨trivial, hk.2⟩))).1 k_ hk_.symm) ?aF ?aO ?aB ?aS ?aL ?_
                  (case aP => exact k63_mkM _ _ _ (⟨(⟨(rd_T26 l0 x10_6).f0, (rd_T26 l0 x10_6).f1⟩ : S26), t777⟩ : S63) (Kd.R_mono (Kd.R_tight rfl (Kd.R_mono (ok' := fun k_ => ((fun _ => True)) k_ ∧ some k_ ≠ (u773002 : Value).ownBlock) (Kd.R_apart' (HO779.out) (Kd.S_typed HO_773002.out) (by decide)) (fun k_ hk => ⟨trivial, hk.2⟩))) (fun _ h_ => h_)))
                  (case aB => exact (by repeat (first | (with_reducible first | exact HB.out | apply below_alloc | apply pw_below_drewN | apply below_drew1 | refine below_set ?_ GE770.out | refine below_set ?_ GE772.out) | exact HB.out)))
                  (case aF => exact (fun _ _ => trivial))
                  (case aO => exact (by (with_reducible repeat (first | apply Kd.S_alloc | apply Kd.S_drewN | apply Kd.S_drew)); exact Kd.S_mono HO_773002.out (fun k_ hk => ⟨trivial, fun e_ => hk.2 e_⟩)))
                  (case aS => exact (below_size (by repeat (first | (with_reducible first | exact HB.out | apply below_alloc | apply pw_below_drewN | apply below_drew1 | refine below_set ?_ GE770.out | refine below_set ?_ GE772.out) | exact HB.out))))
                  (case aL => have := LMc32.out; omega)
                  intro v781 w36 ho hb hg hat
                  rw [← Ny780.out] at ho
                  have n0_ := Aside0.mk (blk_grown (g := gb770) (o := .cells #[.int .i64 0, .int .i64 0, .slice none 0 0] 44 (0, 0)) (bk_ BK770.out) hg (Kd.S_ne HO_773002.out BK770.out (by decide)))
                  have n1_ := Aside0.mk (blk_grown (g := gb772) (o := .cells #[.int .i64 (l0.length : Int), .int .i64 x773001_23, u773002] 44 (0, 0)) (bk_ BK772.out) hg (Kd.S_ne HO_773002.out BK772.out (by decide)))
                  have n2_ := Aside0.mk (hb)
                  have n3_ := Aside0.mk (ho)
                  clear BK770
                  clear BK772
                  clear HB
                  clear HO_773002
                  clear HO779
                  have BK770 := n0_
                  have BK772 := n1_
                  have HB := n2_
                  have HO782 := n3_
                  clear n0_ n1_ n2_ n3_
                  clear ho hb hg hat
                  obtain ⟨Ao37, co37, eo37⟩ := Kd.S_slice HO782.out
                  (first | subst eo37 | (injection eo37 with f1_ f2_ f3_; have f4_ := f1_.symm; have f5_ := f3_.symm; clear f1_ f2_ f3_; subst f4_; subst f5_))
                  refine hK.out _ _ ⟨(blk_cell BK772.out 0).trans rfl, (blk_cell BK772.out 1).trans rfl, (blk_cell BK772.out 2).trans rfl, ((HB.out.cell (World.block_lt_of_cell? w _ hw776_0)).trans hw776_0), ((HB.out.cell (World.block_lt_of_cell? w _ hw776_1)).trans hw776_1)⟩ (fun hHeld => ?_)
                  clear hK K
                  refine nm_ ?_
                  refine pu_ 12 (some 83) (bq_ 13 1) HT_ ?_
                  refine last_ (i := 13) (N := none) (bq_ 14 0) rfl rfl (one_of HT_.out (by kernel_rfl)) (by decide) (fun K hK => ?_)
                  have hs38 : w36.cell? ⟨gb772, 2, none⟩ = some (u773002) := (blk_cell BK772.out 2).trans rfl
                  have hfs38 := blk_frozen BK772.out 2
                  have hns38_0 := NB770_772.out
                  have hms38_0 := NB772_770.out
                  refine skip_ (w1 := ?_) (by rfl) rfl ?_ ?_
                  rotate_left
                  · go_simp
                    rfl
                  refine hK.out _ _ ?_
                  clear hK K
                  refine done_ (done_of HT_.out (by kernel_rfl)) ?_
                  try go_wp2
                  go_roundg k6
                  case measure => have := HJ5.out; have := HJ14.out; have := HJ19.out; have := HJ21.out; have := HJ23.out; have := HK6.out; omega
                  case rel => exact ⟨(wrap64 (x10_6 + 1)), (y780), (.slice Ao37 y780.length co37), (by first | rfl | (simp; done) | (simp [*]; done)), H', ⟨by have := HJ5.out; have := HJ14.out; have := HJ19.out; have := HJ21.out; have := HJ23.out; have := HK6.out; omega⟩, ⟨by (with_reducible repeat (first | apply Kd.S_alloc | apply Kd.S_drewN | apply Kd.S_drew)); exact Kd.S_mono (Kd.S_far (p := ⟨gb772, 2, none⟩) (Kd.S_types HO782.out BK772.out (by decide)) (fun _ hk => hk.2) (.slice Ao37 y780.length co37)) (fun _ hk => trivial)⟩, ⟨by (with_reducible repeat (first | refine blk_drewN ?_ _ | refine blk_drew ?_ | refine blk_alloc ?_ _)); refine blk_far ?_ NB770_772.out _; (with_reducible repeat (first | refine blk_drewN ?_ _ | refine blk_drew ?_ | refine blk_alloc ?_ _)); exact BK770.out⟩, ⟨by (with_reducible repeat (first | refine blk_drewN ?_ _ | refine blk_drew ?_ | refine blk_alloc ?_ _)); refine blk_put (cs := #[.int .i64 (l0.length : Int), .int .i64 x773001_23, u773002]) ?_ 2 _ rfl; (with_reducible repeat (first | refine blk_drewN ?_ _ | refine blk_drew ?_ | refine blk_alloc ?_ _)); exact BK772.out⟩, ⟨by repeat (first | (with_reducible first | exact HB.out | apply below_alloc | apply pw_below_drewN | apply below_drew1 | refine below_set ?_ GE770.out | refine below_set ?_ GE772.out) | exact HB.out)⟩⟩
                · rw [if_neg c28] at H
                  have c28b0 : decide (x10_6 < x9_21) = false := decide_eq_false c28
                  clear c28
                  simp only [Option.some.injEq, Prod.mk.injEq] at H
                  obtain ⟨rfl, rfl, rfl⟩ := H
                  have hnb39 := NB772_770.out
                  have hnc39 := NB770_772.out
                  have hcz40_0 : wr.cell? ⟨gb772, 0, none⟩ = some (.int .i64 (l0.length : Int)) := (blk_cell BK772.out 0).trans rfl
                  have hcz40_1 : wr.cell? ⟨gb772, 1, none⟩ = some (.int .i64 x773001_23) := (blk_cell BK772.out 1).trans rfl
                  have hcz40_2 : wr.cell? ⟨gb772, 2, none⟩ = some (u773002) := (blk_cell BK772.out 2).trans rfl
                  have hfz40_0 := blk_frozen BK772.out 0
                  have hfz40_1 := blk_frozen BK772.out 1
                  have hfz40_2 := blk_frozen BK772.out 2
                  have hcz41_0 : wr.cell? ⟨gb770, 0, none⟩ = some (.int .i64 0) := (blk_cell BK770.out 0).trans rfl
                  have hcz41_1 : wr.cell? ⟨gb770, 1, none⟩ = some (.int .i64 0) := (blk_cell BK770.out 1).trans rfl
                  have hcz41_2 : wr.cell? ⟨gb770, 2, none⟩ = some (.slice none 0 0) := (blk_cell BK770.out 2).trans rfl
                  have hfz41_0 := blk_frozen BK770.out 0
                  have hfz41_1 := blk_frozen BK770.out 1
                  have hfz41_2 := blk_frozen BK770.out 2
                  obtain ⟨Ao42, co42, eo42⟩ := Kd.S_slice HO_773002.out
                  subst eo42
                  go_wp2
                  refine bodyPost_ret (results_cell_row rfl _ _ gb770 44 #[.int .i64 (l0.length : Int), .int .i64 x773001_23, .slice Ao42 x773002_6.length co42] (0, 0) _ rfl (by (with_reducible repeat (first | refine blk_drewN ?_ _ | refine blk_drew ?_ | refine blk_alloc ?_ _)); refine blk_put (cs := #[.int .i64 (l0.length : Int), .int .i64 x773001_23, .slice none 0 0]) ?_ 2 _ rfl; (with_reducible repeat (first | refine blk_drewN ?_ _ | refine blk_drew ?_ | refine blk_alloc ?_ _)); refine blk_put (cs := #[.int .i64 (l0.length : Int), .int .i64 0, .slice none 0 0]) ?_ 1 _ rfl; (with_reducible repeat (first | refine blk_drewN ?_ _ | refine blk_drew ?_ | refine blk_alloc ?_ _)); refine blk_put (cs := #[.int .i64 0, .int .i64 0, .slice none 0 0]) ?_ 0 _ rfl; (with_reducible repeat (first | refine blk_drewN ?_ _ | refine blk_drew ?_ | refine blk_alloc ?_ _)); exact BK770.out) Try.underlying44 rfl (by kernel_rfl)) rfl ?_
                  exact ⟨_, by first | rfl | (simp [errW_none, errW_some] <;> rfl) | (simp [*, errW_none, errW_some] <;> rfl), by (with_reducible repeat (first | apply Kd.S_alloc | apply Kd.S_drewN | apply Kd.S_drew)); exact Kd.S_mono (Kd.S_far (p := ⟨gb770, 2, none⟩) (Kd.S_far (p := ⟨gb770, 1, none⟩) (Kd.S_far (p := ⟨gb770, 0, none⟩) (Kd.S_types HO_773002.out BK770.out (by decide)) (fun _ hk => hk.2) (.int .i64 (l0.length : Int))) (fun _ hk => hk.2) (.int .i64 x773001_23)) (fun _ hk => hk.2) (.slice Ao42 x773002_6.length co42)) (fun _ hk => trivial), by repeat (first | (with_reducible first | exact HB.out | apply below_alloc | apply pw_below_drewN | apply below_drew1 | refine below_set ?_ GE770.out | refine below_set ?_ GE772.out) | exact HB.out)⟩
  · replace c5 := Bool.eq_false_iff.mpr c5
    subst c5
    have H1 : (some (0, 0, ([] : List (S63)))) = some (r1, r2, r3) := by rw [if_neg (show ¬ (false = true) by decide)] at H; exact H
    clear H
    have H := H1
    clear H1
    simp only [Option.some.injEq, Prod.mk.injEq] at H
    obtain ⟨rfl, rfl, rfl⟩ := H
    go_enter Try.func37, Try.ntmps37
    go_wp2_with (first | ((with_reducible refine gate_dst (N := 6) rfl ?_); refine box_event ?hg (N := 6) ?hd (cs := #[.int .i64 0, .int .i64 0, .slice none 0 0]) (t := 44) ?hr ?_; (case hd => rfl); (case hg => rfl); (case hr => first | (go_simp; done) | (go_simp; rfl)); intro gb770 hg w43 hbox hb; have n0_ := Aside0.mk (below_step (be_ HB.out) hb); have n1_ := Aside0.mk (hbox); have n2_ := Aside0.mk ((by rw [hg]; exact (below_size (be_ HB.out)) : w.heap.size ≤ gb770)); have n3_ := Aside0.mk ((by rw [hg]; exact (below_size (be_ HB.out)) : w.heap.size ≤ gb770)); clear HB; have HB := n0_; have BK770 := n1_; have GW770 := n2_; have GE770 := n3_; clear n0_ n1_ n2_ n3_; clear hb hbox hg) | ((with_reducible refine gate_callee (f := 14) rfl ?_); refine goesL_ (some 12) rfl rfl Try.func14 (by kernel_rfl) rfl #[.slice A0 l0.length c0] rfl al_ ?_; (with_reducible refine (spec_PairsOk.calls k _ _ l0 false _ ?side1 ?side2 A4.out).mono ?_); (case side1 => exact kc_ (Kd.C_below HR0.out HB.out)); (case side2 => exact HC0.out); rintro e w44 ⟨rfl, hb⟩; refine ⟨_, rfl, ?_⟩; have n0_ := Aside0.mk (blk_below (g := gb770) (o := .cells #[.int .i64 0, .int .i64 0, .slice none 0 0] 44 (0, 0)) (bk_ BK770.out) hb); have n1_ := Aside0.mk (below_step (bs_ HB.out GE770.out) hb); clear BK770; clear HB; have BK770 := n0_; have HB := n1_; clear n0_ n1_; (try clear hb); (try clear hb2); (try clear hk); (try clear hi); have hcz45_0 : w44.cell? ⟨gb770, 0, none⟩ = some (.int .i64 0) := (blk_cell BK770.out 0).trans rfl; have hcz45_1 : w44.cell? ⟨gb770, 1, none⟩ = some (.int .i64 0) := (blk_cell BK770.out 1).trans rfl; have hcz45_2 : w44.cell? ⟨gb770, 2, none⟩ = some (.slice none 0 0) := (blk_cell BK770.out 2).trans rfl; have hfz45_0 := blk_frozen BK770.out 0; have hfz45_1 := blk_frozen BK770.out 1; have hfz45_2 := blk_frozen BK770.out 2))
    refine bodyPost_ret (results_cell_row rfl _ _ gb770 44 #[.int .i64 0, .int .i64 0, .slice none 0 0] (0, 0) _ rfl (by (with_reducible repeat (first | refine blk_drewN ?_ _ | refine blk_drew ?_ | refine blk_alloc ?_ _)); refine blk_put (cs := #[.int .i64 0, .int .i64 0, .slice none 0 0]) ?_ 2 _ rfl; (with_reducible repeat (first | refine blk_drewN ?_ _ | refine blk_drew ?_ | refine blk_alloc ?_ _)); refine blk_put (cs := #[.int .i64 0, .int .i64 0, .slice none 0 0]) ?_ 1 _ rfl; (with_reducible repeat (first | refine blk_drewN ?_ _ | refine blk_drew ?_ | refine blk_alloc ?_ _)); refine blk_put (cs := #[.int .i64 0, .int .i64 0, .slice none 0 0]) ?_ 0 _ rfl; (with_reducible repeat (first | refine blk_drewN ?_ _ | refine blk_drew ?_ | refine blk_alloc ?_ _)); exact BK770.out) Try.underlying44 rfl (by kernel_rfl)) rfl ?_
    exact ⟨_, by first | rfl | (simp [errW_none, errW_some] <;> rfl) | (simp [*, errW_none, errW_some] <;> rfl), by first | exact Kd.S_nil _ _ _ _ _ | exact Kd.N_nil _ _ _ _ _ | exact Kd.V_nil _ _ _ _ _ | exact Kd.Q_nil _ _ _ _ _ | exact Kd.R_nil _ _ _ _ _, bs_ HB.out GE770.out⟩

/-! ###  laws_sameTexts: function 38 -/
def laws_sameTexts.l0 : Nat → List ByteArray → List ByteArray → Int → Option (Bool)
  | 0, _, _, _ => none
  | k + 1, x0, x1, x5 => if x5 < (x0.length : Int) then (if 0 ≤ x5 then (if x5 < (x1.length : Int) then (if (rdOf ByteArray.empty x0 x5).toList = (rdOf ByteArray.empty x1 x5).toList then (laws_sameTexts.l0 k x0 x1 (wrap64 (x5 + 1))) else (some false)) else (none)) else (none)) else (some true)
def laws_sameTexts.f (k : Nat) (l0 : List ByteArray) (l1 : List ByteArray) : Option (Bool) := if (l0.length : Int) = (l1.length : Int) then (laws_sameTexts.l0 k l0 l1 0) else (some false)
set_option maxHeartbeats 8000000 in
set_option maxRecDepth 100000 in
theorem laws_sameTexts.calls (k : Nat) (A0 : Option Addr) (c0 : Nat) (l0 : List ByteArray) (A1 : Option Addr) (c1 : Nat) (l1 : List ByteArray) (r : Bool) (w : World) (hr0 : Kd.C Kd.string w A0 l0.length l0) (hc0 : l0.length ≤ c0) (hr1 : Kd.C Kd.string w A1 l1.length l1) (hc1 : l1.length ≤ c1) (h : laws_sameTexts.f k l0 l1 = some r) :
  Calls Try.prog 38 #[.slice A0 l0.length c0, .slice A1 l1.length c1] w fun e w' => e = .returned (.bool r) ∧ Drawn0 w w' := by
  have HR0 := Aside0.mk hr0
  have HC0 := Aside0.mk hc0
  clear hr0 hc0
  have HR1 := Aside0.mk hr1
  have HC1 := Aside0.mk hc1
  clear hr1 hc1
  have H : (if (l0.length : Int) = (l1.length : Int) then (laws_sameTexts.l0 k l0 l1 0) else (some false)) = some r := h
  clear h
  by_cases c3 : (l0.length : Int) = (l1.length : Int)
  · rw [if_pos c3] at H
    have c3b0 : ((l0.length : Int) == (l1.length : Int)) = true := beq_iff_eq.mpr c3
    have c3b1 : ((l0.length : Int) != (l1.length : Int)) = false := bne_eq_false_iff_eq.mpr c3
    have c3b2 : (l0.length == l1.length) = true := by first | simpa using c3 | (simp at c3 ⊢; omega)
    clear c3
    have H' := Aside0.mk H
    clear H
    go_enter Try.func38, Try.ntmps38
    go_wp2
    repeat (go_quiet (fail); try go_wp2)
    go_loopg [5] k (fun kq v5 w' => ∃ (x5_1 : Int), v5 = .int .i64 x5_1 ∧ Aside0 (laws_sameTexts.l0 kq l0 l1 x5_1 = some r) ∧ Aside0 (kq ≤ k) ∧ Drawn0 w w')
    case atStart => exact ⟨(0), (by first | rfl | (simp; done) | (simp [*]; done)), H', ⟨Nat.le_refl _⟩, by repeat (first | exact Drawn0.refl _ | apply Drawn0.step)⟩
    case round =>
     clear H'
     try clear c1
     try clear p2
     try clear c3
     try clear c3b0
     try clear c3b1
     try clear c3b2
     obtain ⟨x5_1, rfl, HA, HK1, ⟨m1, rfl⟩⟩ := hrel
     cases gk with
     | zero => exact absurd HA.out (by simp [laws_sameTexts.l0])
     | succ k1 =>
      have H := HA.out
      clear HA
      simp only [laws_sameTexts.l0] at H
      by_cases c4 : x5_1 < (l0.length : Int)
      · rw [if_pos c4] at H
        have c4b0 : decide (x5_1 < (l0.length : Int)) = true := decide_eq_true c4
        clear c4
        by_cases c5 : 0 ≤ x5_1
        rotate_left
        · rw [if_neg c5] at H; exact absurd H (by simp)
        rw [if_pos c5] at H
        have c5b0 : decide (0 ≤ x5_1) = true := decide_eq_true c5
        clear c5
        by_cases c6 : x5_1 < (l1.length : Int)
        rotate_left
        · rw [if_neg c6] at H; exact absurd H (by simp)
        rw [if_pos c6] at H
        have c6b0 : decide (x5_1 < (l1.length : Int)) = true := decide_eq_true c6
        clear c6
        by_cases c7 : (rdOf ByteArray.empty l0 x5_1).toList = (rdOf ByteArray.empty l1 x5_1).toList
        · rw [if_pos c7] at H
          have c7b0 : ((rdOf ByteArray.empty l0 x5_1).toList == (rdOf ByteArray.empty l1 x5_1).toList) = true := beq_iff_eq.mpr c7
          have c7b1 : ((rdOf ByteArray.empty l0 x5_1).toList != (rdOf ByteArray.empty l1 x5_1).toList) = false := bne_eq_false_iff_eq.mpr c7
          clear c7
          have H' := Aside0.mk H
          clear H
          have p783 : 0 ≤ (x5_1 : Int) := of_decide_eq_true (by first | (with_reducible assumption) | assumption)
          have q783 : x5_1 < (l0.length : Int) := of_decide_eq_true (by first | (with_reducible assumption) | assumption)
          obtain ⟨ad783, e783, hx783_0⟩ := Kd.at_string HR0.out x5_1 p783 q783
          cases e783
          replace p783 := eq_true p783
          replace q783 := eq_true q783
          have p784 : 0 ≤ (x5_1 : Int) := of_decide_eq_true (by first | (with_reducible assumption) | assumption)
          have q784 : x5_1 < (l1.length : Int) := of_decide_eq_true (by first | (with_reducible assumption) | assumption)
          obtain ⟨ad784, e784, hx784_0⟩ := Kd.at_string HR1.out x5_1 p784 q784
          cases e784
          replace p784 := eq_true p784
          replace q784 := eq_true q784
          go_wp2
          repeat (go_quiet (fail); try go_wp2)
          go_roundg k1
          case measure => have := HK1.out; omega
          case rel => exact ⟨(wrap64 (x5_1 + 1)), (by first | rfl | (simp; done) | (simp [*]; done)), H', ⟨by have := HK1.out; omega⟩, by repeat (first | exact Drawn0.refl _ | apply Drawn0.step)⟩
        · rw [if_neg c7] at H
          have c7b0 : ((rdOf ByteArray.empty l0 x5_1).toList == (rdOf ByteArray.empty l1 x5_1).toList) = false := beq_eq_false_iff_ne.mpr c7
          have c7b1 : ((rdOf ByteArray.empty l0 x5_1).toList != (rdOf ByteArray.empty l1 x5_1).toList) = true := bne_iff_ne.mpr c7
          obtain rfl := Option.some.inj H
          have p783 : 0 ≤ (x5_1 : Int) := of_decide_eq_true (by first | (with_reducible assumption) | assumption)
          have q783 : x5_1 < (l0.length : Int) := of_decide_eq_true (by first | (with_reducible assumption) | assumption)
          obtain ⟨ad783, e783, hx783_0⟩ := Kd.at_string HR0.out x5_1 p783 q783
          cases e783
          replace p783 := eq_true p783
          replace q783 := eq_true q783
          have p784 : 0 ≤ (x5_1 : Int) := of_decide_eq_true (by first | (with_reducible assumption) | assumption)
          have q784 : x5_1 < (l1.length : Int) := of_decide_eq_true (by first | (with_reducible assumption) | assumption)
          obtain ⟨ad784, e784, hx784_0⟩ := Kd.at_string HR1.out x5_1 p784 q784
          cases e784
          replace p784 := eq_true p784
          replace q784 := eq_true q784
          go_wp2
          repeat (go_quiet (fail); try go_wp2)
          go_ret
          exact ⟨by first | rfl | (simp; done) | (simp [*]; done), by repeat (first | exact Drawn0.refl _ | apply Drawn0.step)⟩
      · rw [if_neg c4] at H
        have c4b0 : decide (x5_1 < (l0.length : Int)) = false := decide_eq_false c4
        clear c4
        obtain rfl := Option.some.inj H
        go_wp2
        repeat (go_quiet (fail); try go_wp2)
        go_ret
        exact ⟨by first | rfl | (simp; done) | (simp [*]; done), by repeat (first | exact Drawn0.refl _ | apply Drawn0.step)⟩
  · rw [if_neg c3] at H
    have c3b0 : ((l0.length : Int) == (l1.length : Int)) = false := beq_eq_false_iff_ne.mpr c3
    have c3b1 : ((l0.length : Int) != (l1.length : Int)) = true := bne_iff_ne.mpr c3
    have c3b2 : (l0.length == l1.length) = false := by first | simpa using c3 | (simp at c3 ⊢; omega)
    obtain rfl := Option.some.inj H
    go_enter Try.func38, Try.ntmps38
    go_wp2
    repeat (go_quiet (fail); try go_wp2)
    go_ret
    exact ⟨by first | rfl | (simp; done) | (simp [*]; done), by repeat (first | exact Drawn0.refl _ | apply Drawn0.step)⟩

end Go.Proofs.Ytgaalomhipfgjaa.P
