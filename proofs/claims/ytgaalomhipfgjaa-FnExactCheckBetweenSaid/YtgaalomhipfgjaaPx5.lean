-- Written by wip/xp/xp.py over the kit's print; Lean checks it.
import Derived.Test.YtgaalomhipfgjaaStr
import Derived.Test.YtgaalomhipfgjaaPx0
import Derived.Test.YtgaalomhipfgjaaPx1
import Derived.Test.YtgaalomhipfgjaaPx3
import Derived.Test.YtgaalomhipfgjaaPx4
namespace Go.Proofs.Ytgaalomhipfgjaa.P
open Go.RowKit Go.Proofs.YtgaalomhipfgjaaW.PrintWords Go.Proofs.YtgaalomhipfgjaaW.PrintLast Go.Proofs.YtgaalomhipfgjaaW.PrintMore
attribute [local go_sem] max2_int min2_int max_two min_two max_three min_three max_four min_four   -- for this text's walks alone
set_option linter.unusedVariables false
set_option linter.unusedSimpArgs false

/-! ###  spec_CheckBetween: function 18 -/
mutual
def spec_CheckBetween.j0 : Nat → ByteArray → ByteArray → ByteArray → List (S26) → Int → Bool → Int → Int → List (S63) → Option ((List (S26)) × Bool)
  | 0, _, _, _, _, _, _, _, _, _ => none
  | k + 1, x0, x1, x2, x10, x11, x53, x374000, x374001, x374002 => if x53 = true then (some (x10, false)) else (spec_CheckBetween.l0 k x0 x1 x2 x10 x11 (([] : List (S26))) 0 x374000 x374001 x374002)
def spec_CheckBetween.l0 : Nat → ByteArray → ByteArray → ByteArray → List (S26) → Int → List (S26) → Int → Int → Int → List (S63) → Option ((List (S26)) × Bool)
  | 0, _, _, _, _, _, _, _, _, _, _ => none
  | k + 1, x0, x1, x2, x10, x11, x12, x13, x374000, x374001, x374002 => if x13 < x11 then ((spec_l5Item.f k x0 x374000 x374001 x374002 x13).bind fun t385 => (if t385 = true then (if 0 ≤ x13 then (if x13 < (x374002.length : Int) then ((spec_l3In.f ((rd_T63 x374002 x13).f0.f0) x1 x2).bind fun t387 => (if t387 = true then (if x12.length < 4398046511104 then (spec_CheckBetween.l0 k x0 x1 x2 x10 x11 (x12 ++ [(⟨(rd_T63 x374002 x13).f0.f0, (rd_T63 x374002 x13).f0.f1⟩ : S26)]) (wrap64 (x13 + 1)) x374000 x374001 x374002) else (none)) else (spec_CheckBetween.l0 k x0 x1 x2 x10 x11 x12 (wrap64 (x13 + 1)) x374000 x374001 x374002))) else (none)) else (none)) else (some (x10, false)))) else (if 0 < (x374002.length : Int) then (if 0 ≤ (wrap64 (x11 - 1)) then (if (wrap64 (x11 - 1)) < (x374002.length : Int) then (if ((Op.bytesLess (((rd_T63 x374002 0).f0.f0).toList) x1.toList) = true) then (if x2.toList = ([] : List UInt8) then (if (wrap64 (x374001 + x11)) < x374000 then (some (x10, false)) else (some (x12, true))) else (if (Op.bytesLess (((rd_T63 x374002 (wrap64 (x11 - 1))).f0.f0).toList) x2.toList) = true then (if (wrap64 (x374001 + x11)) < x374000 then (some (x10, false)) else (some (x12, true))) else (some (x12, true)))) else (if x374001 > 0 then (some (x10, false)) else (if x2.toList = ([] : List UInt8) then (if (wrap64 (x374001 + x11)) < x374000 then (some (x10, false)) else (some (x12, true))) else (if (Op.bytesLess (((rd_T63 x374002 (wrap64 (x11 - 1))).f0.f0).toList) x2.toList) = true then (if (wrap64 (x374001 + x11)) < x374000 then (some (x10, false)) else (some (x12, true))) else (some (x12, true)))))) else (none)) else (none)) else (none))
end
def spec_CheckBetween.f (k : Nat) (a0 : ByteArray) (a1 : ByteArray) (a2 : ByteArray) (a3_0 : Int) (a3_1 : Int) (l3_2 : List (S63)) : Option ((List (S26)) × Bool) := (some (([] : List (S26)) : List (S26))).bind fun y374 => (if a3_0 = 0 then (if (l3_2.length : Int) = 0 then (if a3_1 = 0 then ((spec_l4Root.f k y374).bind fun t377 => (some (y374, (a0.toList == t377.toList)))) else (some (y374, false))) else (some (y374, false))) else ((spec_l1In.f a3_0 1 60).bind fun t378 => (if t378 = true then (if (l3_2.length : Int) = 0 then (spec_CheckBetween.j0 k a0 a1 a2 y374 (l3_2.length : Int) true a3_0 a3_1 l3_2) else ((spec_l1In.f a3_1 0 (wrap64 (a3_0 - 1))).bind fun t379 => (spec_CheckBetween.j0 k a0 a1 a2 y374 (l3_2.length : Int) (!t379) a3_0 a3_1 l3_2))) else (spec_CheckBetween.j0 k a0 a1 a2 y374 (l3_2.length : Int) true a3_0 a3_1 l3_2))))
set_option maxHeartbeats 8000000 in
set_option maxRecDepth 100000 in
theorem spec_CheckBetween.calls (k : Nat) (a0 : ByteArray) (a1 : ByteArray) (a2 : ByteArray) (a3_0 : Int) (a3_1 : Int) (A3_2 : Option Addr) (c3_2 : Nat) (l3_2 : List (S63)) (r1 : List (S26)) (r2 : Bool) (w : World) (hr3_2 : Kd.C k63 w A3_2 l3_2.length l3_2) (hc3_2 : l3_2.length ≤ c3_2) (h : spec_CheckBetween.f k a0 a1 a2 a3_0 a3_1 l3_2 = some (r1, r2)) :
  Calls Try.prog 18 #[.string a0, .string a1, .string a2, .agg #[.int .i64 a3_0, .int .i64 a3_1, .slice A3_2 l3_2.length c3_2]] w fun e w' => ∃ v0_ : Value, e = .returned (.tuple #[v0_, .bool r2]) ∧ Kd.R k26 26 w' w.heap.size (fun _ => True) v0_ r1 ∧ Below w.heap.size w w' := by
  have hu44 := Try.underlying44
  have hu26 := Try.underlying26
  have HR3_2 := Aside0.mk hr3_2
  have HC3_2 := Aside0.mk hc3_2
  clear hr3_2 hc3_2
  have HB := q_ (Below.refl w.heap.size w)
  have H : ((some (([] : List (S26)) : List (S26))).bind fun y374 => (if a3_0 = 0 then (if (l3_2.length : Int) = 0 then (if a3_1 = 0 then ((spec_l4Root.f k y374).bind fun t377 => (some (y374, (a0.toList == t377.toList)))) else (some (y374, false))) else (some (y374, false))) else ((spec_l1In.f a3_0 1 60).bind fun t378 => (if t378 = true then (if (l3_2.length : Int) = 0 then (spec_CheckBetween.j0 k a0 a1 a2 y374 (l3_2.length : Int) true a3_0 a3_1 l3_2) else ((spec_l1In.f a3_1 0 (wrap64 (a3_0 - 1))).bind fun t379 => (spec_CheckBetween.j0 k a0 a1 a2 y374 (l3_2.length : Int) (!t379) a3_0 a3_1 l3_2))) else (spec_CheckBetween.j0 k a0 a1 a2 y374 (l3_2.length : Int) true a3_0 a3_1 l3_2))))) = some (r1, r2) := h
  clear h
  obtain ⟨y374, hy374⟩ : ∃ y_ : List (S26), y_ = (([] : List (S26))) := ⟨_, rfl⟩
  replace H : (if a3_0 = 0 then (if (l3_2.length : Int) = 0 then (if a3_1 = 0 then ((spec_l4Root.f k y374).bind fun t377 => (some (y374, (a0.toList == t377.toList)))) else (some (y374, false))) else (some (y374, false))) else ((spec_l1In.f a3_0 1 60).bind fun t378 => (if t378 = true then (if (l3_2.length : Int) = 0 then (spec_CheckBetween.j0 k a0 a1 a2 y374 (l3_2.length : Int) true a3_0 a3_1 l3_2) else ((spec_l1In.f a3_1 0 (wrap64 (a3_0 - 1))).bind fun t379 => (spec_CheckBetween.j0 k a0 a1 a2 y374 (l3_2.length : Int) (!t379) a3_0 a3_1 l3_2))) else (spec_CheckBetween.j0 k a0 a1 a2 y374 (l3_2.length : Int) true a3_0 a3_1 l3_2)))) = some (r1, r2) := ry_ hy374 H
  have Ny374 := Aside0.mk hy374
  clear hy374
  by_cases c5 : a3_0 = 0
  · rw [if_pos c5] at H
    have c5b0 : (a3_0 == 0) = true := beq_iff_eq.mpr c5
    have c5b1 : (a3_0 != 0) = false := bne_eq_false_iff_eq.mpr c5
    clear c5
    by_cases c6 : (l3_2.length : Int) = 0
    rotate_left
    · rw [if_neg c6] at H
      have c6b0 : ((l3_2.length : Int) == 0) = false := beq_eq_false_iff_ne.mpr c6
      have c6b1 : ((l3_2.length : Int) != 0) = true := bne_iff_ne.mpr c6
      have c6b2 : ¬ (l3_2 = []) := fun h_ => c6 (by rw [h_]; rfl)
      simp only [Option.some.injEq, Prod.mk.injEq] at H
      obtain ⟨rfl, rfl⟩ := H
      go_enter Try.func18, Try.ntmps18
      go_wp2_with (first | ((with_reducible refine gate_dst (N := 7) rfl ?_); refine box_event rfl (N := 7) rfl (cs := #[.int .i64 a3_0, .int .i64 a3_1, .slice A3_2 l3_2.length c3_2]) (t := 44) hr_ ?_; intro gb373 hg w19 hbox hb; have BK373 := q_ (hbox); have GW373 := q_ ((by rw [hg]; exact (below_size (be_ HB.out)) : w.heap.size ≤ gb373)); have GE373 := q_ ((by rw [hg]; exact (below_size (be_ HB.out)) : w.heap.size ≤ gb373)); replace HB := q_ (below_step (be_ HB.out) hb); clear hb hbox hg) | ((with_reducible refine gate_dst (N := 16) rfl ?_); refine Kd.R_lit k26 _ 26 ?hg (N := 16) ?hd (xs := ([] : List (S26))) (inner := []) (ok := fun _ => True) (okp := fun _ => True) ?hr ?hp (fun _ hk => hk) trivial (Below.refl _ _) (Nat.le_refl _) (by simp) ?_; (case hd => rfl); (case hg => rfl); (case hr => first | (go_simp; done) | (go_simp; rfl)); (case hp => exact (Reps.none _ _)); intro v375 w20 ho21 hb hg_ hnew_; clear hg_ hnew_; (first | rw [← Ny374.out] at ho21 | (simp only [Int.reduceToNat] at ho21; rw [← Ny374.out] at ho21)); have HO376 := q_ (Kd.R_lower ho21 (below_size (bs_ HB.out GE373.out))); replace BK373 := q_ (bb_ BK373.out hb); replace HB := q_ (below_step (bs_ HB.out GE373.out) hb); clear hb ho21; obtain ⟨hcz22_0, hcz22_1, hcz22_2, hfz22_0, hfz22_1, hfz22_2⟩ := bx3_ BK373.out))
      go_ret2
      exact ⟨_, rf_, by (with_reducible repeat (first | apply Kd.R_alloc | apply Kd.R_drewN | apply Kd.R_drew)); exact HO376.out, bs_ HB.out GE373.out⟩
    rw [if_pos c6] at H
    have c6b0 : ((l3_2.length : Int) == 0) = true := beq_iff_eq.mpr c6
    have c6b1 : ((l3_2.length : Int) != 0) = false := bne_eq_false_iff_eq.mpr c6
    clear c6
    by_cases c7 : a3_1 = 0
    rotate_left
    · rw [if_neg c7] at H
      have c7b0 : (a3_1 == 0) = false := beq_eq_false_iff_ne.mpr c7
      have c7b1 : (a3_1 != 0) = true := bne_iff_ne.mpr c7
      simp only [Option.some.injEq, Prod.mk.injEq] at H
      obtain ⟨rfl, rfl⟩ := H
      go_enter Try.func18, Try.ntmps18
      go_wp2_with (first | ((with_reducible refine gate_dst (N := 7) rfl ?_); refine box_event rfl (N := 7) rfl (cs := #[.int .i64 a3_0, .int .i64 a3_1, .slice A3_2 l3_2.length c3_2]) (t := 44) hr_ ?_; intro gb373 hg w15 hbox hb; have BK373 := q_ (hbox); have GW373 := q_ ((by rw [hg]; exact (below_size (be_ HB.out)) : w.heap.size ≤ gb373)); have GE373 := q_ ((by rw [hg]; exact (below_size (be_ HB.out)) : w.heap.size ≤ gb373)); replace HB := q_ (below_step (be_ HB.out) hb); clear hb hbox hg) | ((with_reducible refine gate_dst (N := 16) rfl ?_); refine Kd.R_lit k26 _ 26 ?hg (N := 16) ?hd (xs := ([] : List (S26))) (inner := []) (ok := fun _ => True) (okp := fun _ => True) ?hr ?hp (fun _ hk => hk) trivial (Below.refl _ _) (Nat.le_refl _) (by simp) ?_; (case hd => rfl); (case hg => rfl); (case hr => first | (go_simp; done) | (go_simp; rfl)); (case hp => exact (Reps.none _ _)); intro v375 w16 ho17 hb hg_ hnew_; clear hg_ hnew_; (first | rw [← Ny374.out] at ho17 | (simp only [Int.reduceToNat] at ho17; rw [← Ny374.out] at ho17)); have HO376 := q_ (Kd.R_lower ho17 (below_size (bs_ HB.out GE373.out))); replace BK373 := q_ (bb_ BK373.out hb); replace HB := q_ (below_step (bs_ HB.out GE373.out) hb); clear hb ho17; obtain ⟨hcz18_0, hcz18_1, hcz18_2, hfz18_0, hfz18_1, hfz18_2⟩ := bx3_ BK373.out))
      go_ret2
      exact ⟨_, rf_, by (with_reducible repeat (first | apply Kd.R_alloc | apply Kd.R_drewN | apply Kd.R_drew)); exact HO376.out, bs_ HB.out GE373.out⟩
    rw [if_pos c7] at H
    have c7b0 : (a3_1 == 0) = true := beq_iff_eq.mpr c7
    have c7b1 : (a3_1 != 0) = false := bne_eq_false_iff_eq.mpr c7
    clear c7
    replace H := Option.bind_eq_some_iff.mp H
    obtain ⟨t377, A80, H⟩ := H
    have A8 := Aside0.mk A80
    clear A80
    simp only [Option.some.injEq, Prod.mk.injEq] at H
    obtain ⟨rfl, rfl⟩ := H
    go_enter Try.func18, Try.ntmps18
    go_wp2_with (first | ((with_reducible refine gate_dst (N := 7) rfl ?_); refine box_event rfl (N := 7) rfl (cs := #[.int .i64 a3_0, .int .i64 a3_1, .slice A3_2 l3_2.length c3_2]) (t := 44) hr_ ?_; intro gb373 hg w9 hbox hb; have BK373 := q_ (hbox); have GW373 := q_ ((by rw [hg]; exact (below_size (be_ HB.out)) : w.heap.size ≤ gb373)); have GE373 := q_ ((by rw [hg]; exact (below_size (be_ HB.out)) : w.heap.size ≤ gb373)); replace HB := q_ (below_step (be_ HB.out) hb); clear hb hbox hg) | ((with_reducible refine gate_dst (N := 16) rfl ?_); refine Kd.R_lit k26 _ 26 ?hg (N := 16) ?hd (xs := ([] : List (S26))) (inner := []) (ok := fun _ => True) (okp := fun _ => True) ?hr ?hp (fun _ hk => hk) trivial (Below.refl _ _) (Nat.le_refl _) (by simp) ?_; (case hd => rfl); (case hg => rfl); (case hr => first | (go_simp; done) | (go_simp; rfl)); (case hp => exact (Reps.none _ _)); intro v375 w10 ho11 hb hg_ hnew_; clear hg_ hnew_; (first | rw [← Ny374.out] at ho11 | (simp only [Int.reduceToNat] at ho11; rw [← Ny374.out] at ho11)); have HO376 := q_ (Kd.R_lower ho11 (below_size (bs_ HB.out GE373.out))); replace BK373 := q_ (bb_ BK373.out hb); replace HB := q_ (below_step (bs_ HB.out GE373.out) hb); clear hb ho11; obtain ⟨hcz12_0, hcz12_1, hcz12_2, hfz12_0, hfz12_1, hfz12_2⟩ := bx3_ BK373.out; obtain ⟨Ao13, co13, eo13⟩ := Kd.R_slice HO376.out; subst eo13) | (go_at_call 71; (with_reducible refine (spec_l4Root.calls k _ _ y374 t377 _ ?side1 ?side2 A8.out).mono ?_); (case side1 => exact kc_ (Kd.R_reads' HO376.out).2.2); (case side2 => exact (Kd.R_reads' HO376.out).2.1); rintro e w14 ⟨rfl, hb⟩; replace HO376 := q_ (Kd.R_below (kr_ HO376.out) hb); replace BK373 := q_ (bb_ BK373.out hb); replace HB := q_ (below_step (bs_ HB.out GE373.out) hb); (try clear hb)))
    go_ret2
    exact ⟨_, rf_, by (with_reducible repeat (first | apply Kd.R_alloc | apply Kd.R_drewN | apply Kd.R_drew)); exact HO376.out, bs_ HB.out GE373.out⟩
  · rw [if_neg c5] at H
    have c5b0 : (a3_0 == 0) = false := beq_eq_false_iff_ne.mpr c5
    have c5b1 : (a3_0 != 0) = true := bne_iff_ne.mpr c5
    have HC23 := Aside0.mk H
    clear H
    go_enter Try.func18, Try.ntmps18
    go_upto_region 5 with (first | ((with_reducible refine gate_dst (N := 7) rfl ?_); refine box_event rfl (N := 7) rfl (cs := #[.int .i64 a3_0, .int .i64 a3_1, .slice A3_2 l3_2.length c3_2]) (t := 44) hr_ ?_; intro gb373 hg w24 hbox hb; have BK373 := q_ (hbox); have GW373 := q_ ((by rw [hg]; exact (below_size (be_ HB.out)) : w.heap.size ≤ gb373)); have GE373 := q_ ((by rw [hg]; exact (below_size (be_ HB.out)) : w.heap.size ≤ gb373)); replace HB := q_ (below_step (be_ HB.out) hb); clear hb hbox hg) | ((with_reducible refine gate_dst (N := 16) rfl ?_); refine Kd.R_lit k26 _ 26 ?hg (N := 16) ?hd (xs := ([] : List (S26))) (inner := []) (ok := fun _ => True) (okp := fun _ => True) ?hr ?hp (fun _ hk => hk) trivial (Below.refl _ _) (Nat.le_refl _) (by simp) ?_; (case hd => rfl); (case hg => rfl); (case hr => first | (go_simp; done) | (go_simp; rfl)); (case hp => exact (Reps.none _ _)); intro v375 w25 ho26 hb hg_ hnew_; clear hg_ hnew_; (first | rw [← Ny374.out] at ho26 | (simp only [Int.reduceToNat] at ho26; rw [← Ny374.out] at ho26)); have HO376 := q_ (Kd.R_lower ho26 (below_size (bs_ HB.out GE373.out))); replace BK373 := q_ (bb_ BK373.out hb); replace HB := q_ (below_step (bs_ HB.out GE373.out) hb); clear hb ho26; obtain ⟨hcz27_0, hcz27_1, hcz27_2, hfz27_0, hfz27_1, hfz27_2⟩ := bx3_ BK373.out))
    (try simp only [Act.put, sa_, sz_, ss_])
    go_cut [53] (fun v53 wc => ∃ (kq : Nat) (x53_22 : Bool), v53 = .bool x53_22 ∧ Aside0 (spec_CheckBetween.j0 kq a0 a1 a2 y374 (l3_2.length : Int) x53_22 a3_0 a3_1 l3_2 = some (r1, r2)) ∧ Aside0 (kq ≤ k) ∧ Aside0 (Kd.R k26 26 wc w.heap.size (fun _ => True) v375 y374) ∧ Aside0 (wc.heap[gb373]? = some (.cells #[.int .i64 a3_0, .int .i64 a3_1, (.slice A3_2 l3_2.length c3_2)] 44 (0, 0))) ∧ Aside0 (Below w.heap.size w wc))
    case first =>
     have H := HC23.out
     clear HC23
     replace H := Option.bind_eq_some_iff.mp H
     obtain ⟨t378, A280, H⟩ := H
     have A28 := Aside0.mk A280
     clear A280
     by_cases c29 : t378 = true
     rotate_left
     · replace c29 := Bool.eq_false_iff.mpr c29
       subst c29
       rw [if_neg (show ¬ (false = true) by decide)] at H
       have H' := Aside0.mk H
       clear H
       obtain ⟨hcz34_0, hcz34_1, hcz34_2, hfz34_0, hfz34_1, hfz34_2⟩ := bx3_ BK373.out
       go_wp2_with (first | ((with_reducible refine gate_callee (f := 61) rfl ?_); refine gl_ (some 39) Try.func61 #[.int .i64 a3_0, .int .i64 1, .int .i64 60] rfl al_ ?_; (with_reducible refine (spec_l1In.calls a3_0 1 60 false _ A28.out).mono ?_); rintro e w' ⟨rfl, ⟨nd, rfl⟩⟩; refine ⟨_, rfl, ?_⟩))
       go_meet
       case rel => exact ⟨_, (true), rs_, H', ⟨by first | omega | exact Nat.le_refl _⟩, ⟨by (with_reducible repeat (first | apply Kd.R_alloc | apply Kd.R_drewN | apply Kd.R_drew)); exact HO376.out⟩, ⟨by (with_reducible repeat (first | refine blk_drewN ?_ _ | refine blk_drew ?_ | refine blk_alloc ?_ _)); exact BK373.out⟩, ⟨bs_ HB.out GE373.out⟩⟩
     subst c29
     rw [if_pos rfl] at H
     by_cases c30 : (l3_2.length : Int) = 0
     · rw [if_pos c30] at H
       have c30b0 : ((l3_2.length : Int) == 0) = true := beq_iff_eq.mpr c30
       have c30b1 : ((l3_2.length : Int) != 0) = false := bne_eq_false_iff_eq.mpr c30
       clear c30
       (first | rw [c30b0] | (simp only [i64_w, i32_w]; rw [c30b0]) | skip)
       have H' := Aside0.mk H
       clear H
       obtain ⟨hcz31_0, hcz31_1, hcz31_2, hfz31_0, hfz31_1, hfz31_2⟩ := bx3_ BK373.out
       go_wp2_with (first | ((with_reducible refine gate_callee (f := 61) rfl ?_); refine gl_ (some 39) Try.func61 #[.int .i64 a3_0, .int .i64 1, .int .i64 60] rfl al_ ?_; (with_reducible refine (spec_l1In.calls a3_0 1 60 true _ A28.out).mono ?_); rintro e w' ⟨rfl, ⟨nd, rfl⟩⟩; refine ⟨_, rfl, ?_⟩))
       go_meet
       case rel => exact ⟨_, (true), rs_, H', ⟨by first | omega | exact Nat.le_refl _⟩, ⟨by (with_reducible repeat (first | apply Kd.R_alloc | apply Kd.R_drewN | apply Kd.R_drew)); exact HO376.out⟩, ⟨by (with_reducible repeat (first | refine blk_drewN ?_ _ | refine blk_drew ?_ | refine blk_alloc ?_ _)); exact BK373.out⟩, ⟨bs_ HB.out GE373.out⟩⟩
     rw [if_neg c30] at H
     have c30b0 : ((l3_2.length : Int) == 0) = false := beq_eq_false_iff_ne.mpr c30
     have c30b1 : ((l3_2.length : Int) != 0) = true := bne_iff_ne.mpr c30
     have c30b2 : ¬ (l3_2 = []) := fun h_ => c30 (by rw [h_]; rfl)
     (first | rw [c30b0] | (simp only [i64_w, i32_w]; rw [c30b0]) | skip)
     replace H := Option.bind_eq_some_iff.mp H
     obtain ⟨t379, A320, H⟩ := H
     have A32 := Aside0.mk A320
     clear A320
     have H' := Aside0.mk H
     clear H
     obtain ⟨hcz33_0, hcz33_1, hcz33_2, hfz33_0, hfz33_1, hfz33_2⟩ := bx3_ BK373.out
     go_wp2_with (first | ((with_reducible refine gate_callee (f := 61) rfl ?_); refine gl_ (some 39) Try.func61 #[.int .i64 a3_0, .int .i64 1, .int .i64 60] rfl al_ ?_; (with_reducible refine (spec_l1In.calls a3_0 1 60 true _ A28.out).mono ?_); rintro e w' ⟨rfl, ⟨nd, rfl⟩⟩; refine ⟨_, rfl, ?_⟩) | (go_at_call 61; (with_reducible refine (spec_l1In.calls a3_1 0 (wrap64 (a3_0 - 1)) t379 _ A32.out).mono ?_); rintro e w' ⟨rfl, ⟨nd, rfl⟩⟩))
     go_meet
     case rel => exact ⟨_, (!t379), rs_, H', ⟨by first | omega | exact Nat.le_refl _⟩, ⟨by (with_reducible repeat (first | apply Kd.R_alloc | apply Kd.R_drewN | apply Kd.R_drew)); exact HO376.out⟩, ⟨by (with_reducible repeat (first | refine blk_drewN ?_ _ | refine blk_drew ?_ | refine blk_alloc ?_ _)); exact BK373.out⟩, ⟨bs_ HB.out GE373.out⟩⟩
    case rest =>
     clear HC23
     try clear c1
     try clear c2
     try clear p2
     try clear c3
     try clear c5
     try clear c5b0
     try clear c5b1
     try clear c6
     try clear c6b0
     try clear c6b1
     try clear c6b2
     try clear p6
     try clear c7
     try clear c7b0
     try clear c7b1
     try clear c18
     try clear c29
     try clear c30
     try clear c30b0
     try clear c30b1
     try clear c30b2
     try clear hcz12_0
     try clear hcz12_1
     try clear hcz12_2
     try clear hcz18_0
     try clear hcz18_1
     try clear hcz18_2
     try clear hcz22_0
     try clear hcz22_1
     try clear hcz22_2
     try clear hcz27_0
     try clear hcz27_1
     try clear hcz27_2
     try clear hcz31_0
     try clear hcz31_1
     try clear hcz31_2
     try clear hcz33_0
     try clear hcz33_1
     try clear hcz33_2
     try clear hcz34_0
     try clear hcz34_1
     try clear hcz34_2
     try clear hfz12_0
     try clear hfz12_1
     try clear hfz12_2
     try clear hfz18_0
     try clear hfz18_1
     try clear hfz18_2
     try clear hfz22_0
     try clear hfz22_1
     try clear hfz22_2
     try clear hfz27_0
     try clear hfz27_1
     try clear hfz27_2
     try clear hfz31_0
     try clear hfz31_1
     try clear hfz31_2
     try clear hfz33_0
     try clear hfz33_1
     try clear hfz33_2
     try clear hfz34_0
     try clear hfz34_1
     try clear hfz34_2
     obtain ⟨kq, x53_22, rfl, HA, HJ22, HO_10, BK373, HB⟩ := hcut
     cases kq with
     | zero => exact absurd HA.out (by simp [spec_CheckBetween.j0])
     | succ kj22 =>
      have H := HA.out
      clear HA
      simp only [spec_CheckBetween.j0] at H
      by_cases c35 : x53_22 = true
      · subst c35
        rw [if_pos rfl] at H
        simp only [Option.some.injEq, Prod.mk.injEq] at H
        obtain ⟨rfl, rfl⟩ := H
        go_wp2
        go_ret2
        exact ⟨_, rf_, by (with_reducible repeat (first | apply Kd.R_alloc | apply Kd.R_drewN | apply Kd.R_drew)); exact HO_10.out, bs_ HB.out GE373.out⟩
      · replace c35 := Bool.eq_false_iff.mpr c35
        subst c35
        rw [if_neg (show ¬ (false = true) by decide)] at H
        obtain ⟨y380, hy380⟩ : ∃ y_ : List (S26), y_ = (([] : List (S26))) := ⟨_, rfl⟩
        replace H : (spec_CheckBetween.l0 kj22 a0 a1 a2 y374 (l3_2.length : Int) y380 0 a3_0 a3_1 l3_2) = some (r1, r2) := ry_ hy380 H
        have Ny380 := Aside0.mk hy380
        clear hy380
        have H' := Aside0.mk H
        clear H
        go_wp2_with (first | ((with_reducible refine gate_dst (N := 55) rfl ?_); refine Kd.R_lit k26 _ 26 ?hg (N := 55) ?hd (xs := ([] : List (S26))) (inner := []) (ok := fun _ => True) (okp := fun _ => True) ?hr ?hp (fun _ hk => hk) trivial (Below.refl _ _) (Nat.le_refl _) (by simp) ?_; (case hd => rfl); (case hg => rfl); (case hr => first | (go_simp; done) | (go_simp; rfl)); (case hp => exact (Reps.none _ _)); intro v381 w36 ho37 hb hg_ hnew_; clear hg_ hnew_; (first | rw [← Ny380.out] at ho37 | (simp only [Int.reduceToNat] at ho37; rw [← Ny380.out] at ho37)); have HO382 := q_ (Kd.R_lower (Kd.R_new' ho37 (Kd.R_lt (kr_ HO_10.out))) (below_size (bs_ HB.out GE373.out))); replace HO_10 := q_ (Kd.R_elder' (kr_ HO_10.out) (Kd.R_base ho37) hb); replace BK373 := q_ (bb_ BK373.out hb); replace HB := q_ (below_step (bs_ HB.out GE373.out) hb); clear hb ho37))
        go_loopg [12, 13] kj22 (fun kq v12 v13 w' => ∃ (x12_2 : List (S26)) (x13_2 : Int), v13 = .int .i64 x13_2 ∧ Aside0 (spec_CheckBetween.l0 kq a0 a1 a2 y374 (l3_2.length : Int) x12_2 x13_2 a3_0 a3_1 l3_2 = some (r1, r2)) ∧ Aside0 (kq ≤ kj22) ∧ Aside0 (Kd.R k26 26 w' w.heap.size (fun k_ => some k_ ≠ (v12 : Value).ownBlock) v375 y374) ∧ Aside0 (Kd.R k26 26 w' w.heap.size (fun k_ => some k_ ≠ (v375 : Value).ownBlock) v12 x12_2) ∧ Aside0 (w'.heap[gb373]? = some (.cells #[.int .i64 a3_0, .int .i64 a3_1, (.slice A3_2 l3_2.length c3_2)] 44 (0, 0))) ∧ Aside0 (Below w.heap.size w w'))
        case atStart => exact ⟨(y380), (0), rs_, H', ⟨Nat.le_refl _⟩, ⟨by (with_reducible repeat (first | apply Kd.R_alloc | apply Kd.R_drewN | apply Kd.R_drew)); exact Kd.R_mono HO_10.out (fun _ hk => hk.2)⟩, ⟨by (with_reducible repeat (first | apply Kd.R_alloc | apply Kd.R_drewN | apply Kd.R_drew)); exact Kd.R_mono HO382.out (fun _ hk => hk.2)⟩, ⟨by (with_reducible repeat (first | refine blk_drewN ?_ _ | refine blk_drew ?_ | refine blk_alloc ?_ _)); exact BK373.out⟩, ⟨bs_ HB.out GE373.out⟩⟩
        case round =>
         clear H'
         try clear c1
         try clear c2
         try clear p2
         try clear c3
         try clear c5
         try clear c5b0
         try clear c5b1
         try clear c6
         try clear c6b0
         try clear c6b1
         try clear c6b2
         try clear p6
         try clear c7
         try clear c7b0
         try clear c7b1
         try clear c18
         try clear c29
         try clear c30
         try clear c30b0
         try clear c30b1
         try clear c30b2
         try clear c35
         try clear hcz12_0
         try clear hcz12_1
         try clear hcz12_2
         try clear hcz18_0
         try clear hcz18_1
         try clear hcz18_2
         try clear hcz22_0
         try clear hcz22_1
         try clear hcz22_2
         try clear hcz27_0
         try clear hcz27_1
         try clear hcz27_2
         try clear hcz31_0
         try clear hcz31_1
         try clear hcz31_2
         try clear hcz33_0
         try clear hcz33_1
         try clear hcz33_2
         try clear hcz34_0
         try clear hcz34_1
         try clear hcz34_2
         try clear hfz12_0
         try clear hfz12_1
         try clear hfz12_2
         try clear hfz18_0
         try clear hfz18_1
         try clear hfz18_2
         try clear hfz22_0
         try clear hfz22_1
         try clear hfz22_2
         try clear hfz27_0
         try clear hfz27_1
         try clear hfz27_2
         try clear hfz31_0
         try clear hfz31_1
         try clear hfz31_2
         try clear hfz33_0
         try clear hfz33_1
         try clear hfz33_2
         try clear hfz34_0
         try clear hfz34_1
         try clear hfz34_2
         try clear p2
         try clear p6
         obtain ⟨x12_2, x13_2, rfl, HA, HK2, HO_10, HO_12, BK373, HB⟩ := hrel
         cases gk with
         | zero => exact absurd HA.out (by simp [spec_CheckBetween.l0])
         | succ k2 =>
          have H := HA.out
          clear HA
          simp only [spec_CheckBetween.l0] at H
          by_cases c38 : x13_2 < (l3_2.length : Int)
          · rw [if_pos c38] at H
            have c38b0 : decide (x13_2 < (l3_2.length : Int)) = true := decide_eq_true c38
            clear c38
            replace H := Option.bind_eq_some_iff.mp H
            obtain ⟨t385, A390, H⟩ := H
            have A39 := Aside0.mk A390
            clear A390
            by_cases c40 : t385 = true
            rotate_left
            · replace c40 := Bool.eq_false_iff.mpr c40
              subst c40
              rw [if_neg (show ¬ (false = true) by decide)] at H
              simp only [Option.some.injEq, Prod.mk.injEq] at H
              obtain ⟨rfl, rfl⟩ := H
              obtain ⟨hcz53_0, hcz53_1, hcz53_2, hfz53_0, hfz53_1, hfz53_2⟩ := bx3_ BK373.out
              go_wp2_with (first | ((with_reducible refine gate_callee (f := 72) rfl ?_); refine gl_ (some 64) Try.func72 #[.string a0, .agg #[.int .i64 a3_0, .int .i64 a3_1, .slice A3_2 l3_2.length c3_2], .int .i64 x13_2] rfl al_ ?_; (with_reducible refine (spec_l5Item.calls k2 a0 a3_0 a3_1 _ _ l3_2 x13_2 false _ ?side1 ?side2 A39.out).mono ?_); (case side1 => exact kc_ (Kd.C_below HR3_2.out HB.out)); (case side2 => exact HC3_2.out); rintro e w54 ⟨rfl, hb⟩; refine ⟨_, rfl, ?_⟩; replace HO_10 := q_ (Kd.R_below (kr_ HO_10.out) hb); replace HO_12 := q_ (Kd.R_below (kr_ HO_12.out) hb); replace BK373 := q_ (bb_ BK373.out hb); replace HB := q_ (below_step (bs_ HB.out GE373.out) hb); (try clear hb)))
              go_ret2
              exact ⟨_, rf_, by (with_reducible repeat (first | apply Kd.R_alloc | apply Kd.R_drewN | apply Kd.R_drew)); exact Kd.R_mono HO_10.out (fun _ hk => trivial), bs_ HB.out GE373.out⟩
            subst c40
            rw [if_pos rfl] at H
            by_cases c41 : 0 ≤ x13_2
            rotate_left
            · rw [if_neg c41] at H; exact absurd H (by simp)
            rw [if_pos c41] at H
            have c41b0 : decide (0 ≤ x13_2) = true := decide_eq_true c41
            clear c41
            by_cases c42 : x13_2 < (l3_2.length : Int)
            rotate_left
            · rw [if_neg c42] at H; exact absurd H (by simp)
            rw [if_pos c42] at H
            have c42b0 : decide (x13_2 < (l3_2.length : Int)) = true := decide_eq_true c42
            clear c42
            replace H := Option.bind_eq_some_iff.mp H
            obtain ⟨t387, A430, H⟩ := H
            have A43 := Aside0.mk A430
            clear A430
            by_cases c44 : t387 = true
            rotate_left
            · replace c44 := Bool.eq_false_iff.mpr c44
              subst c44
              rw [if_neg (show ¬ (false = true) by decide)] at H
              have H' := Aside0.mk H
              clear H
              obtain ⟨hcz50_0, hcz50_1, hcz50_2, hfz50_0, hfz50_1, hfz50_2⟩ := bx3_ BK373.out
              go_wp2_with (first | ((with_reducible refine gate_callee (f := 72) rfl ?_); refine gl_ (some 64) Try.func72 #[.string a0, .agg #[.int .i64 a3_0, .int .i64 a3_1, .slice A3_2 l3_2.length c3_2], .int .i64 x13_2] rfl al_ ?_; (with_reducible refine (spec_l5Item.calls k2 a0 a3_0 a3_1 _ _ l3_2 x13_2 true _ ?side1 ?side2 A39.out).mono ?_); (case side1 => exact kc_ (Kd.C_below HR3_2.out HB.out)); (case side2 => exact HC3_2.out); rintro e w51 ⟨rfl, hb⟩; refine ⟨_, rfl, ?_⟩; replace HO_10 := q_ (Kd.R_below (kr_ HO_10.out) hb); replace HO_12 := q_ (Kd.R_below (kr_ HO_12.out) hb); replace BK373 := q_ (bb_ BK373.out hb); replace HB := q_ (below_step (bs_ HB.out GE373.out) hb); (try clear hb); obtain ⟨hcz52_0, hcz52_1, hcz52_2, hfz52_0, hfz52_1, hfz52_2⟩ := bx3_ BK373.out; have p386 : 0 ≤ (x13_2 : Int) := od_; have q386 : x13_2 < (l3_2.length : Int) := od_; obtain ⟨ad386, A386_2, c386_2, e386, hx386_0, hx386_1, hx386_2, hl386_2, hi386_2⟩ := at_T63 HR3_2.out x13_2 p386 q386; cases e386; replace hx386_0 := (HB.out.cell (World.block_lt_of_cell? w _ hx386_0)).trans hx386_0; replace hx386_1 := (HB.out.cell (World.block_lt_of_cell? w _ hx386_1)).trans hx386_1; replace hx386_2 := (HB.out.cell (World.block_lt_of_cell? w _ hx386_2)).trans hx386_2; have HR386_2 := Aside0.mk hi386_2; have HC386_2 := Aside0.mk hl386_2; clear hi386_2 hl386_2; replace p386 := eq_true p386; replace q386 := eq_true q386) | ((with_reducible refine gate_callee (f := 73) rfl ?_); refine gl_ (some 76) Try.func73 #[.string ((rd_T63 l3_2 x13_2).f0.f0), .string a1, .string a2] rfl al_ ?_; (with_reducible refine (spec_l3In.calls ((rd_T63 l3_2 x13_2).f0.f0) a1 a2 false _ A43.out).mono ?_); rintro e w' ⟨rfl, ⟨nd, rfl⟩⟩; refine ⟨_, rfl, ?_⟩))
              go_roundg k2
              case measure => have := HJ22.out; have := HK2.out; omega
              case rel => exact ⟨(x12_2), (wrap64 (x13_2 + 1)), rs_, H', ⟨by have := HJ22.out; have := HK2.out; omega⟩, ⟨by (with_reducible repeat (first | apply Kd.R_alloc | apply Kd.R_drewN | apply Kd.R_drew)); exact HO_10.out⟩, ⟨by (with_reducible repeat (first | apply Kd.R_alloc | apply Kd.R_drewN | apply Kd.R_drew)); exact HO_12.out⟩, ⟨by (with_reducible repeat (first | refine blk_drewN ?_ _ | refine blk_drew ?_ | refine blk_alloc ?_ _)); exact BK373.out⟩, ⟨bs_ HB.out GE373.out⟩⟩
            subst c44
            rw [if_pos rfl] at H
            by_cases c45 : x12_2.length < 4398046511104
            rotate_left
            · rw [if_neg c45] at H; exact absurd H (by simp)
            rw [if_pos c45] at H
            have LMc45 := Aside0.mk c45
            clear c45
            obtain ⟨y389, hy389⟩ : ∃ y_ : List (S26), y_ = (x12_2 ++ [(⟨(rd_T63 l3_2 x13_2).f0.f0, (rd_T63 l3_2 x13_2).f0.f1⟩ : S26)]) := ⟨_, rfl⟩
            replace H : (spec_CheckBetween.l0 k2 a0 a1 a2 y374 (l3_2.length : Int) y389 (wrap64 (x13_2 + 1)) a3_0 a3_1 l3_2) = some (r1, r2) := ry_ hy389 H
            have Ny389 := Aside0.mk hy389
            clear hy389
            have H' := Aside0.mk H
            clear H
            obtain ⟨hcz46_0, hcz46_1, hcz46_2, hfz46_0, hfz46_1, hfz46_2⟩ := bx3_ BK373.out
            go_wp2_with (first | ((with_reducible refine gate_callee (f := 72) rfl ?_); refine gl_ (some 64) Try.func72 #[.string a0, .agg #[.int .i64 a3_0, .int .i64 a3_1, .slice A3_2 l3_2.length c3_2], .int .i64 x13_2] rfl al_ ?_; (with_reducible refine (spec_l5Item.calls k2 a0 a3_0 a3_1 _ _ l3_2 x13_2 true _ ?side1 ?side2 A39.out).mono ?_); (case side1 => exact kc_ (Kd.C_below HR3_2.out HB.out)); (case side2 => exact HC3_2.out); rintro e w47 ⟨rfl, hb⟩; refine ⟨_, rfl, ?_⟩; replace HO_10 := q_ (Kd.R_below (kr_ HO_10.out) hb); replace HO_12 := q_ (Kd.R_below (kr_ HO_12.out) hb); replace BK373 := q_ (bb_ BK373.out hb); replace HB := q_ (below_step (bs_ HB.out GE373.out) hb); (try clear hb); obtain ⟨hcz48_0, hcz48_1, hcz48_2, hfz48_0, hfz48_1, hfz48_2⟩ := bx3_ BK373.out; have p386 : 0 ≤ (x13_2 : Int) := od_; have q386 : x13_2 < (l3_2.length : Int) := od_; obtain ⟨ad386, A386_2, c386_2, e386, hx386_0, hx386_1, hx386_2, hl386_2, hi386_2⟩ := at_T63 HR3_2.out x13_2 p386 q386; cases e386; replace hx386_0 := (HB.out.cell (World.block_lt_of_cell? w _ hx386_0)).trans hx386_0; replace hx386_1 := (HB.out.cell (World.block_lt_of_cell? w _ hx386_1)).trans hx386_1; replace hx386_2 := (HB.out.cell (World.block_lt_of_cell? w _ hx386_2)).trans hx386_2; have HR386_2 := Aside0.mk hi386_2; have HC386_2 := Aside0.mk hl386_2; clear hi386_2 hl386_2; replace p386 := eq_true p386; replace q386 := eq_true q386) | ((with_reducible refine gate_callee (f := 73) rfl ?_); refine gl_ (some 76) Try.func73 #[.string ((rd_T63 l3_2 x13_2).f0.f0), .string a1, .string a2] rfl al_ ?_; (with_reducible refine (spec_l3In.calls ((rd_T63 l3_2 x13_2).f0.f0) a1 a2 true _ A43.out).mono ?_); rintro e w' ⟨rfl, ⟨nd, rfl⟩⟩; refine ⟨_, rfl, ?_⟩; have p388 : 0 ≤ (x13_2 : Int) := od_; have q388 : x13_2 < (l3_2.length : Int) := od_; obtain ⟨ad388, A388_2, c388_2, e388, hx388_0, hx388_1, hx388_2, hl388_2, hi388_2⟩ := at_T63 HR3_2.out x13_2 p388 q388; obtain rfl : ad386 = ad388 := (by injection e388); replace hx388_0 := (HB.out.cell (World.block_lt_of_cell? w _ hx388_0)).trans hx388_0; replace hx388_1 := (HB.out.cell (World.block_lt_of_cell? w _ hx388_1)).trans hx388_1; replace hx388_2 := (HB.out.cell (World.block_lt_of_cell? w _ hx388_2)).trans hx388_2; have HR388_2 := Aside0.mk hi388_2; have HC388_2 := Aside0.mk hl388_2; clear hi388_2 hl388_2; replace p388 := eq_true p388; replace q388 := eq_true q388; have ea_ := Option.some.inj (hx386_2.symm.trans hx388_2); injection ea_ with ea_ en_ ec_; subst ea_; subst ec_; clear en_) | ((with_reducible refine gate_builtin (b := .append) (xs := #[.tmp 77, .tmp 84]) rfl ?_); at_builtin; refine Kd.R_append k26 (w0 := w) w.heap.size rfl (.tmp 77) (.tmp 84) 24 26 (.agg #[(.string ⟨#[]⟩), (.string ⟨#[]⟩)]) 32 rfl Try.underlying24 info26 rfl (by decide) (by omega) u12 x12_2 (⟨(rd_T63 l3_2 x13_2).f0.f0, (rd_T63 l3_2 x13_2).f0.f1⟩ : S26) [.string ((rd_T63 l3_2 x13_2).f0.f0), .string ((rd_T63 l3_2 x13_2).f0.f1)] (fun k_ => some k_ ≠ (v375 : Value).ownBlock) (fun _ => False) rfl rfl ?aP (fun _ hk => hk.elim) ?aF ?aO ?aB ?aS ?aL ?_; (case aP => exact k26_mkM _ _ _ (⟨(rd_T63 l3_2 x13_2).f0.f0, (rd_T63 l3_2 x13_2).f0.f1⟩ : S26)); (case aB => exact (bs_ HB.out GE373.out)); (case aF => exact (fun k_ hk => Kd.fresh' (Kd.R_lt (kr_ HO_10.out)) k_ hk)); (case aO => exact (kr_ HO_12.out)); (case aS => exact (below_size (bs_ HB.out GE373.out))); (case aL => have := LMc45.out; omega); intro v390 w49 ho hb hg hat; rw [← Ny389.out] at ho; have n0_ := q_ (Kd.R_after (ok := (fun _ => True)) (by (with_reducible repeat (first | apply Kd.R_alloc | apply Kd.R_drewN | apply Kd.R_drew)); exact Kd.R_mono HO_10.out (fun _ hk => ⟨trivial, hk⟩)) hg hat); have n1_ := q_ (blk_grown (g := gb373) (o := .cells #[.int .i64 a3_0, .int .i64 a3_1, .slice (some ad386) l3_2.length c3_2] 44 (0, 0)) (bk_ BK373.out) hg (Kd.R_ne HO_12.out BK373.out (by decide))); have n2_ := q_ (hb); have n3_ := q_ (ho); clear HO_10; clear BK373; clear HB; clear HO_12; have HO_10 := n0_; have BK373 := n1_; have HB := n2_; have HO391 := n3_; clear n0_ n1_ n2_ n3_; clear ho hb hg hat))
            go_roundg k2
            case measure => have := HJ22.out; have := HK2.out; omega
            case rel => exact ⟨(y389), (wrap64 (x13_2 + 1)), rs_, H', ⟨by have := HJ22.out; have := HK2.out; omega⟩, ⟨by (with_reducible repeat (first | apply Kd.R_alloc | apply Kd.R_drewN | apply Kd.R_drew)); exact Kd.R_mono HO_10.out (fun _ hk => hk.2)⟩, ⟨by (with_reducible repeat (first | apply Kd.R_alloc | apply Kd.R_drewN | apply Kd.R_drew)); exact HO391.out⟩, ⟨by (with_reducible repeat (first | refine blk_drewN ?_ _ | refine blk_drew ?_ | refine blk_alloc ?_ _)); exact BK373.out⟩, ⟨bs_ HB.out GE373.out⟩⟩
          · rw [if_neg c38] at H
            have c38b0 : decide (x13_2 < (l3_2.length : Int)) = false := decide_eq_false c38
            clear c38
            by_cases c55 : 0 < (l3_2.length : Int)
            rotate_left
            · rw [if_neg c55] at H; exact absurd H (by simp)
            rw [if_pos c55] at H
            have c55b0 : decide (0 < (l3_2.length : Int)) = true := decide_eq_true c55
            have c55b1 : decide (0 < l3_2.length) = true := decide_eq_true (by omega)
            clear c55
            obtain ⟨ji56, hji56⟩ : ∃ j_ : Int, (wrap64 ((l3_2.length : Int) - 1)) = j_ := ⟨_, rfl⟩
            replace H : (if 0 ≤ (ji56) then (if (ji56) < (l3_2.length : Int) then (if ((Op.bytesLess (((rd_T63 l3_2 0).f0.f0).toList) a1.toList) = true) then (if a2.toList = ([] : List UInt8) then (if (wrap64 (a3_1 + (l3_2.length : Int))) < a3_0 then (some (y374, false)) else (some (x12_2, true))) else (if (Op.bytesLess (((rd_T63 l3_2 (ji56)).f0.f0).toList) a2.toList) = true then (if (wrap64 (a3_1 + (l3_2.length : Int))) < a3_0 then (some (y374, false)) else (some (x12_2, true))) else (some (x12_2, true)))) else (if a3_1 > 0 then (some (y374, false)) else (if a2.toList = ([] : List UInt8) then (if (wrap64 (a3_1 + (l3_2.length : Int))) < a3_0 then (some (y374, false)) else (some (x12_2, true))) else (if (Op.bytesLess (((rd_T63 l3_2 (ji56)).f0.f0).toList) a2.toList) = true then (if (wrap64 (a3_1 + (l3_2.length : Int))) < a3_0 then (some (y374, false)) else (some (x12_2, true))) else (some (x12_2, true)))))) else (none)) else (none)) = some (r1, r2) := by first | (rw [hji56] at H; exact H) | (simp only [hji56] at H ⊢; exact H)
            have hji56w : (IntKind.i64.wrap ((l3_2.length : Int) - 1)) = ji56 := (i64_w _).trans hji56
            by_cases c57 : 0 ≤ (ji56)
            rotate_left
            · rw [if_neg c57] at H; exact absurd H (by simp)
            rw [if_pos c57] at H
            have c57b0 : decide (0 ≤ (ji56)) = true := decide_eq_true c57
            clear c57
            by_cases c58 : (ji56) < (l3_2.length : Int)
            rotate_left
            · rw [if_neg c58] at H; exact absurd H (by simp)
            rw [if_pos c58] at H
            have c58b0 : decide ((ji56) < (l3_2.length : Int)) = true := decide_eq_true c58
            clear c58
            by_cases c59 : ((Op.bytesLess (((rd_T63 l3_2 0).f0.f0).toList) a1.toList) = true)
            · rw [if_pos c59] at H
              have c59b0 : (Op.bytesLess (((rd_T63 l3_2 0).f0.f0).toList) a1.toList) = true := c59
              clear c59
              by_cases c60 : a2.toList = ([] : List UInt8)
              · rw [if_pos c60] at H
                have c60b0 : (a2.toList == ([] : List UInt8)) = true := beq_iff_eq.mpr c60
                have c60b1 : (a2.toList != ([] : List UInt8)) = false := bne_eq_false_iff_eq.mpr c60
                clear c60
                by_cases c61 : (wrap64 (a3_1 + (l3_2.length : Int))) < a3_0
                · rw [if_pos c61] at H
                  have c61b0 : decide ((wrap64 (a3_1 + (l3_2.length : Int))) < a3_0) = true := decide_eq_true c61
                  clear c61
                  simp only [Option.some.injEq, Prod.mk.injEq] at H
                  obtain ⟨rfl, rfl⟩ := H
                  obtain ⟨hcz62_0, hcz62_1, hcz62_2, hfz62_0, hfz62_1, hfz62_2⟩ := bx3_ BK373.out
                  have p383 : 0 ≤ (0 : Int) := (by omega)
                  have q383 : 0 < (l3_2.length : Int) := od_
                  obtain ⟨ad383, A383_2, c383_2, e383, hx383_0, hx383_1, hx383_2, hl383_2, hi383_2⟩ := at_T63 HR3_2.out 0 p383 q383
                  cases e383
                  have qi383 : (0 < l3_2.length) = True := eq_true (by omega)
                  (try rw [show ((0 : Int)).toNat = 0 from rfl] at hx383_0)
                  (try rw [show 0 * 3 = 0 from rfl] at hx383_0)
                  (try rw [Addr.add_zero'] at hx383_0)
                  (try rw [show ((0 : Int)).toNat = 0 from rfl] at hx383_1)
                  (try rw [show 0 * 3 = 0 from rfl] at hx383_1)
                  (try rw [Addr.add_zero'] at hx383_1)
                  (try rw [show ((0 : Int)).toNat = 0 from rfl] at hx383_2)
                  (try rw [show 0 * 3 = 0 from rfl] at hx383_2)
                  (try rw [Addr.add_zero'] at hx383_2)
                  replace hx383_0 := (HB.out.cell (World.block_lt_of_cell? w _ hx383_0)).trans hx383_0
                  replace hx383_1 := (HB.out.cell (World.block_lt_of_cell? w _ hx383_1)).trans hx383_1
                  replace hx383_2 := (HB.out.cell (World.block_lt_of_cell? w _ hx383_2)).trans hx383_2
                  have HR383_2 := Aside0.mk hi383_2
                  have HC383_2 := Aside0.mk hl383_2
                  clear hi383_2 hl383_2
                  replace p383 := eq_true p383
                  replace q383 := eq_true q383
                  have p384 : 0 ≤ ((ji56) : Int) := od_
                  have q384 : (ji56) < (l3_2.length : Int) := od_
                  obtain ⟨ad384, A384_2, c384_2, e384, hx384_0, hx384_1, hx384_2, hl384_2, hi384_2⟩ := at_T63 HR3_2.out (ji56) p384 q384
                  obtain rfl : ad383 = ad384 := (by injection e384)
                  replace hx384_0 := (HB.out.cell (World.block_lt_of_cell? w _ hx384_0)).trans hx384_0
                  replace hx384_1 := (HB.out.cell (World.block_lt_of_cell? w _ hx384_1)).trans hx384_1
                  replace hx384_2 := (HB.out.cell (World.block_lt_of_cell? w _ hx384_2)).trans hx384_2
                  have HR384_2 := Aside0.mk hi384_2
                  have HC384_2 := Aside0.mk hl384_2
                  clear hi384_2 hl384_2
                  replace p384 := eq_true p384
                  replace q384 := eq_true q384
                  go_wp2
                  go_ret2
                  exact ⟨_, by first | rfl | (simp [errW_none, errW_some] <;> rfl) | (simp only [← hji56]; first | rfl | (simp [errW_none, errW_some] <;> rfl)) | (simp [*, errW_none, errW_some] <;> rfl), by (with_reducible repeat (first | apply Kd.R_alloc | apply Kd.R_drewN | apply Kd.R_drew)); exact Kd.R_mono HO_10.out (fun _ hk => trivial), bs_ HB.out GE373.out⟩
                rw [if_neg c61] at H
                have c61b0 : decide ((wrap64 (a3_1 + (l3_2.length : Int))) < a3_0) = false := decide_eq_false c61
                clear c61
                simp only [Option.some.injEq, Prod.mk.injEq] at H
                obtain ⟨rfl, rfl⟩ := H
                obtain ⟨hcz63_0, hcz63_1, hcz63_2, hfz63_0, hfz63_1, hfz63_2⟩ := bx3_ BK373.out
                have p383 : 0 ≤ (0 : Int) := (by omega)
                have q383 : 0 < (l3_2.length : Int) := od_
                obtain ⟨ad383, A383_2, c383_2, e383, hx383_0, hx383_1, hx383_2, hl383_2, hi383_2⟩ := at_T63 HR3_2.out 0 p383 q383
                cases e383
                have qi383 : (0 < l3_2.length) = True := eq_true (by omega)
                (try rw [show ((0 : Int)).toNat = 0 from rfl] at hx383_0)
                (try rw [show 0 * 3 = 0 from rfl] at hx383_0)
                (try rw [Addr.add_zero'] at hx383_0)
                (try rw [show ((0 : Int)).toNat = 0 from rfl] at hx383_1)
                (try rw [show 0 * 3 = 0 from rfl] at hx383_1)
                (try rw [Addr.add_zero'] at hx383_1)
                (try rw [show ((0 : Int)).toNat = 0 from rfl] at hx383_2)
                (try rw [show 0 * 3 = 0 from rfl] at hx383_2)
                (try rw [Addr.add_zero'] at hx383_2)
                replace hx383_0 := (HB.out.cell (World.block_lt_of_cell? w _ hx383_0)).trans hx383_0
                replace hx383_1 := (HB.out.cell (World.block_lt_of_cell? w _ hx383_1)).trans hx383_1
                replace hx383_2 := (HB.out.cell (World.block_lt_of_cell? w _ hx383_2)).trans hx383_2
                have HR383_2 := Aside0.mk hi383_2
                have HC383_2 := Aside0.mk hl383_2
                clear hi383_2 hl383_2
                replace p383 := eq_true p383
                replace q383 := eq_true q383
                have p384 : 0 ≤ ((ji56) : Int) := od_
                have q384 : (ji56) < (l3_2.length : Int) := od_
                obtain ⟨ad384, A384_2, c384_2, e384, hx384_0, hx384_1, hx384_2, hl384_2, hi384_2⟩ := at_T63 HR3_2.out (ji56) p384 q384
                obtain rfl : ad383 = ad384 := (by injection e384)
                replace hx384_0 := (HB.out.cell (World.block_lt_of_cell? w _ hx384_0)).trans hx384_0
                replace hx384_1 := (HB.out.cell (World.block_lt_of_cell? w _ hx384_1)).trans hx384_1
                replace hx384_2 := (HB.out.cell (World.block_lt_of_cell? w _ hx384_2)).trans hx384_2
                have HR384_2 := Aside0.mk hi384_2
                have HC384_2 := Aside0.mk hl384_2
                clear hi384_2 hl384_2
                replace p384 := eq_true p384
                replace q384 := eq_true q384
                go_wp2
                go_ret2
                exact ⟨_, by first | rfl | (simp [errW_none, errW_some] <;> rfl) | (simp only [← hji56]; first | rfl | (simp [errW_none, errW_some] <;> rfl)) | (simp [*, errW_none, errW_some] <;> rfl), by (with_reducible repeat (first | apply Kd.R_alloc | apply Kd.R_drewN | apply Kd.R_drew)); exact Kd.R_mono HO_12.out (fun _ hk => trivial), bs_ HB.out GE373.out⟩
              rw [if_neg c60] at H
              have c60b0 : (a2.toList == ([] : List UInt8)) = false := beq_eq_false_iff_ne.mpr c60
              have c60b1 : (a2.toList != ([] : List UInt8)) = true := bne_iff_ne.mpr c60
              by_cases c64 : (Op.bytesLess (((rd_T63 l3_2 (ji56)).f0.f0).toList) a2.toList) = true
              rotate_left
              · rw [if_neg c64] at H
                have c64b0 : (Op.bytesLess (((rd_T63 l3_2 (ji56)).f0.f0).toList) a2.toList) = false := by simpa using c64
                clear c64
                simp only [Option.some.injEq, Prod.mk.injEq] at H
                obtain ⟨rfl, rfl⟩ := H
                obtain ⟨hcz68_0, hcz68_1, hcz68_2, hfz68_0, hfz68_1, hfz68_2⟩ := bx3_ BK373.out
                have p383 : 0 ≤ (0 : Int) := (by omega)
                have q383 : 0 < (l3_2.length : Int) := od_
                obtain ⟨ad383, A383_2, c383_2, e383, hx383_0, hx383_1, hx383_2, hl383_2, hi383_2⟩ := at_T63 HR3_2.out 0 p383 q383
                cases e383
                have qi383 : (0 < l3_2.length) = True := eq_true (by omega)
                (try rw [show ((0 : Int)).toNat = 0 from rfl] at hx383_0)
                (try rw [show 0 * 3 = 0 from rfl] at hx383_0)
                (try rw [Addr.add_zero'] at hx383_0)
                (try rw [show ((0 : Int)).toNat = 0 from rfl] at hx383_1)
                (try rw [show 0 * 3 = 0 from rfl] at hx383_1)
                (try rw [Addr.add_zero'] at hx383_1)
                (try rw [show ((0 : Int)).toNat = 0 from rfl] at hx383_2)
                (try rw [show 0 * 3 = 0 from rfl] at hx383_2)
                (try rw [Addr.add_zero'] at hx383_2)
                replace hx383_0 := (HB.out.cell (World.block_lt_of_cell? w _ hx383_0)).trans hx383_0
                replace hx383_1 := (HB.out.cell (World.block_lt_of_cell? w _ hx383_1)).trans hx383_1
                replace hx383_2 := (HB.out.cell (World.block_lt_of_cell? w _ hx383_2)).trans hx383_2
                have HR383_2 := Aside0.mk hi383_2
                have HC383_2 := Aside0.mk hl383_2
                clear hi383_2 hl383_2
                replace p383 := eq_true p383
                replace q383 := eq_true q383
                have p384 : 0 ≤ ((ji56) : Int) := od_
                have q384 : (ji56) < (l3_2.length : Int) := od_
                obtain ⟨ad384, A384_2, c384_2, e384, hx384_0, hx384_1, hx384_2, hl384_2, hi384_2⟩ := at_T63 HR3_2.out (ji56) p384 q384
                obtain rfl : ad383 = ad384 := (by injection e384)
                replace hx384_0 := (HB.out.cell (World.block_lt_of_cell? w _ hx384_0)).trans hx384_0
                replace hx384_1 := (HB.out.cell (World.block_lt_of_cell? w _ hx384_1)).trans hx384_1
                replace hx384_2 := (HB.out.cell (World.block_lt_of_cell? w _ hx384_2)).trans hx384_2
                have HR384_2 := Aside0.mk hi384_2
                have HC384_2 := Aside0.mk hl384_2
                clear hi384_2 hl384_2
                replace p384 := eq_true p384
                replace q384 := eq_true q384
                go_wp2
                go_ret2
                exact ⟨_, by first | rfl | (simp [errW_none, errW_some] <;> rfl) | (simp only [← hji56]; first | rfl | (simp [errW_none, errW_some] <;> rfl)) | (simp [*, errW_none, errW_some] <;> rfl), by (with_reducible repeat (first | apply Kd.R_alloc | apply Kd.R_drewN | apply Kd.R_drew)); exact Kd.R_mono HO_12.out (fun _ hk => trivial), bs_ HB.out GE373.out⟩
              rw [if_pos c64] at H
              have c64b0 : (Op.bytesLess (((rd_T63 l3_2 (ji56)).f0.f0).toList) a2.toList) = true := c64
              clear c64
              by_cases c65 : (wrap64 (a3_1 + (l3_2.length : Int))) < a3_0
              · rw [if_pos c65] at H
                have c65b0 : decide ((wrap64 (a3_1 + (l3_2.length : Int))) < a3_0) = true := decide_eq_true c65
                clear c65
                simp only [Option.some.injEq, Prod.mk.injEq] at H
                obtain ⟨rfl, rfl⟩ := H
                obtain ⟨hcz66_0, hcz66_1, hcz66_2, hfz66_0, hfz66_1, hfz66_2⟩ := bx3_ BK373.out
                have p383 : 0 ≤ (0 : Int) := (by omega)
                have q383 : 0 < (l3_2.length : Int) := od_
                obtain ⟨ad383, A383_2, c383_2, e383, hx383_0, hx383_1, hx383_2, hl383_2, hi383_2⟩ := at_T63 HR3_2.out 0 p383 q383
                cases e383
                have qi383 : (0 < l3_2.length) = True := eq_true (by omega)
                (try rw [show ((0 : Int)).toNat = 0 from rfl] at hx383_0)
                (try rw [show 0 * 3 = 0 from rfl] at hx383_0)
                (try rw [Addr.add_zero'] at hx383_0)
                (try rw [show ((0 : Int)).toNat = 0 from rfl] at hx383_1)
                (try rw [show 0 * 3 = 0 from rfl] at hx383_1)
                (try rw [Addr.add_zero'] at hx383_1)
                (try rw [show ((0 : Int)).toNat = 0 from rfl] at hx383_2)
                (try rw [show 0 * 3 = 0 from rfl] at hx383_2)
                (try rw [Addr.add_zero'] at hx383_2)
                replace hx383_0 := (HB.out.cell (World.block_lt_of_cell? w _ hx383_0)).trans hx383_0
                replace hx383_1 := (HB.out.cell (World.block_lt_of_cell? w _ hx383_1)).trans hx383_1
                replace hx383_2 := (HB.out.cell (World.block_lt_of_cell? w _ hx383_2)).trans hx383_2
                have HR383_2 := Aside0.mk hi383_2
                have HC383_2 := Aside0.mk hl383_2
                clear hi383_2 hl383_2
                replace p383 := eq_true p383
                replace q383 := eq_true q383
                have p384 : 0 ≤ ((ji56) : Int) := od_
                have q384 : (ji56) < (l3_2.length : Int) := od_
                obtain ⟨ad384, A384_2, c384_2, e384, hx384_0, hx384_1, hx384_2, hl384_2, hi384_2⟩ := at_T63 HR3_2.out (ji56) p384 q384
                obtain rfl : ad383 = ad384 := (by injection e384)
                replace hx384_0 := (HB.out.cell (World.block_lt_of_cell? w _ hx384_0)).trans hx384_0
                replace hx384_1 := (HB.out.cell (World.block_lt_of_cell? w _ hx384_1)).trans hx384_1
                replace hx384_2 := (HB.out.cell (World.block_lt_of_cell? w _ hx384_2)).trans hx384_2
                have HR384_2 := Aside0.mk hi384_2
                have HC384_2 := Aside0.mk hl384_2
                clear hi384_2 hl384_2
                replace p384 := eq_true p384
                replace q384 := eq_true q384
                go_wp2
                go_ret2
                exact ⟨_, by first | rfl | (simp [errW_none, errW_some] <;> rfl) | (simp only [← hji56]; first | rfl | (simp [errW_none, errW_some] <;> rfl)) | (simp [*, errW_none, errW_some] <;> rfl), by (with_reducible repeat (first | apply Kd.R_alloc | apply Kd.R_drewN | apply Kd.R_drew)); exact Kd.R_mono HO_10.out (fun _ hk => trivial), bs_ HB.out GE373.out⟩
              rw [if_neg c65] at H
              have c65b0 : decide ((wrap64 (a3_1 + (l3_2.length : Int))) < a3_0) = false := decide_eq_false c65
              clear c65
              simp only [Option.some.injEq, Prod.mk.injEq] at H
              obtain ⟨rfl, rfl⟩ := H
              obtain ⟨hcz67_0, hcz67_1, hcz67_2, hfz67_0, hfz67_1, hfz67_2⟩ := bx3_ BK373.out
              have p383 : 0 ≤ (0 : Int) := (by omega)
              have q383 : 0 < (l3_2.length : Int) := od_
              obtain ⟨ad383, A383_2, c383_2, e383, hx383_0, hx383_1, hx383_2, hl383_2, hi383_2⟩ := at_T63 HR3_2.out 0 p383 q383
              cases e383
              have qi383 : (0 < l3_2.length) = True := eq_true (by omega)
              (try rw [show ((0 : Int)).toNat = 0 from rfl] at hx383_0)
              (try rw [show 0 * 3 = 0 from rfl] at hx383_0)
              (try rw [Addr.add_zero'] at hx383_0)
              (try rw [show ((0 : Int)).toNat = 0 from rfl] at hx383_1)
              (try rw [show 0 * 3 = 0 from rfl] at hx383_1)
              (try rw [Addr.add_zero'] at hx383_1)
              (try rw [show ((0 : Int)).toNat = 0 from rfl] at hx383_2)
              (try rw [show 0 * 3 = 0 from rfl] at hx383_2)
              (try rw [Addr.add_zero'] at hx383_2)
              replace hx383_0 := (HB.out.cell (World.block_lt_of_cell? w _ hx383_0)).trans hx383_0
              replace hx383_1 := (HB.out.cell (World.block_lt_of_cell? w _ hx383_1)).trans hx383_1
              replace hx383_2 := (HB.out.cell (World.block_lt_of_cell? w _ hx383_2)).trans hx383_2
              have HR383_2 := Aside0.mk hi383_2
              have HC383_2 := Aside0.mk hl383_2
              clear hi383_2 hl383_2
              replace p383 := eq_true p383
              replace q383 := eq_true q383
              have p384 : 0 ≤ ((ji56) : Int) := od_
              have q384 : (ji56) < (l3_2.length : Int) := od_
              obtain ⟨ad384, A384_2, c384_2, e384, hx384_0, hx384_1, hx384_2, hl384_2, hi384_2⟩ := at_T63 HR3_2.out (ji56) p384 q384
              obtain rfl : ad383 = ad384 := (by injection e384)
              replace hx384_0 := (HB.out.cell (World.block_lt_of_cell? w _ hx384_0)).trans hx384_0
              replace hx384_1 := (HB.out.cell (World.block_lt_of_cell? w _ hx384_1)).trans hx384_1
              replace hx384_2 := (HB.out.cell (World.block_lt_of_cell? w _ hx384_2)).trans hx384_2
              have HR384_2 := Aside0.mk hi384_2
              have HC384_2 := Aside0.mk hl384_2
              clear hi384_2 hl384_2
              replace p384 := eq_true p384
              replace q384 := eq_true q384
              go_wp2
              go_ret2
              exact ⟨_, by first | rfl | (simp [errW_none, errW_some] <;> rfl) | (simp only [← hji56]; first | rfl | (simp [errW_none, errW_some] <;> rfl)) | (simp [*, errW_none, errW_some] <;> rfl), by (with_reducible repeat (first | apply Kd.R_alloc | apply Kd.R_drewN | apply Kd.R_drew)); exact Kd.R_mono HO_12.out (fun _ hk => trivial), bs_ HB.out GE373.out⟩
            · rw [if_neg c59] at H
              have c59b0 : (Op.bytesLess (((rd_T63 l3_2 0).f0.f0).toList) a1.toList) = false := by simpa using c59
              clear c59
              by_cases c69 : a3_1 > 0
              · rw [if_pos c69] at H
                have c69b0 : decide (0 < a3_1) = true := decide_eq_true c69
                clear c69
                simp only [Option.some.injEq, Prod.mk.injEq] at H
                obtain ⟨rfl, rfl⟩ := H
                obtain ⟨hcz70_0, hcz70_1, hcz70_2, hfz70_0, hfz70_1, hfz70_2⟩ := bx3_ BK373.out
                have p383 : 0 ≤ (0 : Int) := (by omega)
                have q383 : 0 < (l3_2.length : Int) := od_
                obtain ⟨ad383, A383_2, c383_2, e383, hx383_0, hx383_1, hx383_2, hl383_2, hi383_2⟩ := at_T63 HR3_2.out 0 p383 q383
                cases e383
                have qi383 : (0 < l3_2.length) = True := eq_true (by omega)
                (try rw [show ((0 : Int)).toNat = 0 from rfl] at hx383_0)
                (try rw [show 0 * 3 = 0 from rfl] at hx383_0)
                (try rw [Addr.add_zero'] at hx383_0)
                (try rw [show ((0 : Int)).toNat = 0 from rfl] at hx383_1)
                (try rw [show 0 * 3 = 0 from rfl] at hx383_1)
                (try rw [Addr.add_zero'] at hx383_1)
                (try rw [show ((0 : Int)).toNat = 0 from rfl] at hx383_2)
                (try rw [show 0 * 3 = 0 from rfl] at hx383_2)
                (try rw [Addr.add_zero'] at hx383_2)
                replace hx383_0 := (HB.out.cell (World.block_lt_of_cell? w _ hx383_0)).trans hx383_0
                replace hx383_1 := (HB.out.cell (World.block_lt_of_cell? w _ hx383_1)).trans hx383_1
                replace hx383_2 := (HB.out.cell (World.block_lt_of_cell? w _ hx383_2)).trans hx383_2
                have HR383_2 := Aside0.mk hi383_2
                have HC383_2 := Aside0.mk hl383_2
                clear hi383_2 hl383_2
                replace p383 := eq_true p383
                replace q383 := eq_true q383
                have p384 : 0 ≤ ((ji56) : Int) := od_
                have q384 : (ji56) < (l3_2.length : Int) := od_
                obtain ⟨ad384, A384_2, c384_2, e384, hx384_0, hx384_1, hx384_2, hl384_2, hi384_2⟩ := at_T63 HR3_2.out (ji56) p384 q384
                obtain rfl : ad383 = ad384 := (by injection e384)
                replace hx384_0 := (HB.out.cell (World.block_lt_of_cell? w _ hx384_0)).trans hx384_0
                replace hx384_1 := (HB.out.cell (World.block_lt_of_cell? w _ hx384_1)).trans hx384_1
                replace hx384_2 := (HB.out.cell (World.block_lt_of_cell? w _ hx384_2)).trans hx384_2
                have HR384_2 := Aside0.mk hi384_2
                have HC384_2 := Aside0.mk hl384_2
                clear hi384_2 hl384_2
                replace p384 := eq_true p384
                replace q384 := eq_true q384
                go_wp2
                go_ret2
                exact ⟨_, by first | rfl | (simp [errW_none, errW_some] <;> rfl) | (simp only [← hji56]; first | rfl | (simp [errW_none, errW_some] <;> rfl)) | (simp [*, errW_none, errW_some] <;> rfl), by (with_reducible repeat (first | apply Kd.R_alloc | apply Kd.R_drewN | apply Kd.R_drew)); exact Kd.R_mono HO_10.out (fun _ hk => trivial), bs_ HB.out GE373.out⟩
              · rw [if_neg c69] at H
                have c69b0 : decide (0 < a3_1) = false := decide_eq_false c69
                clear c69
                by_cases c71 : a2.toList = ([] : List UInt8)
                · rw [if_pos c71] at H
                  have c71b0 : (a2.toList == ([] : List UInt8)) = true := beq_iff_eq.mpr c71
                  have c71b1 : (a2.toList != ([] : List UInt8)) = false := bne_eq_false_iff_eq.mpr c71
                  clear c71
                  by_cases c72 : (wrap64 (a3_1 + (l3_2.length : Int))) < a3_0
                  · rw [if_pos c72] at H
                    have c72b0 : decide ((wrap64 (a3_1 + (l3_2.length : Int))) < a3_0) = true := decide_eq_true c72
                    clear c72
                    simp only [Option.some.injEq, Prod.mk.injEq] at H
                    obtain ⟨rfl, rfl⟩ := H
                    obtain ⟨hcz73_0, hcz73_1, hcz73_2, hfz73_0, hfz73_1, hfz73_2⟩ := bx3_ BK373.out
                    have p383 : 0 ≤ (0 : Int) := (by omega)
                    have q383 : 0 < (l3_2.length : Int) := od_
                    obtain ⟨ad383, A383_2, c383_2, e383, hx383_0, hx383_1, hx383_2, hl383_2, hi383_2⟩ := at_T63 HR3_2.out 0 p383 q383
                    cases e383
                    have qi383 : (0 < l3_2.length) = True := eq_true (by omega)
                    (try rw [show ((0 : Int)).toNat = 0 from rfl] at hx383_0)
                    (try rw [show 0 * 3 = 0 from rfl] at hx383_0)
                    (try rw [Addr.add_zero'] at hx383_0)
                    (try rw [show ((0 : Int)).toNat = 0 from rfl] at hx383_1)
                    (try rw [show 0 * 3 = 0 from rfl] at hx383_1)
                    (try rw [Addr.add_zero'] at hx383_1)
                    (try rw [show ((0 : Int)).toNat = 0 from rfl] at hx383_2)
                    (try rw [show 0 * 3 = 0 from rfl] at hx383_2)
                    (try rw [Addr.add_zero'] at hx383_2)
                    replace hx383_0 := (HB.out.cell (World.block_lt_of_cell? w _ hx383_0)).trans hx383_0
                    replace hx383_1 := (HB.out.cell (World.block_lt_of_cell? w _ hx383_1)).trans hx383_1
                    replace hx383_2 := (HB.out.cell (World.block_lt_of_cell? w _ hx383_2)).trans hx383_2
                    have HR383_2 := Aside0.mk hi383_2
                    have HC383_2 := Aside0.mk hl383_2
                    clear hi383_2 hl383_2
                    replace p383 := eq_true p383
                    replace q383 := eq_true q383
                    have p384 : 0 ≤ ((ji56) : Int) := od_
                    have q384 : (ji56) < (l3_2.length : Int) := od_
                    obtain ⟨ad384, A384_2, c384_2, e384, hx384_0, hx384_1, hx384_2, hl384_2, hi384_2⟩ := at_T63 HR3_2.out (ji56) p384 q384
                    obtain rfl : ad383 = ad384 := (by injection e384)
                    replace hx384_0 := (HB.out.cell (World.block_lt_of_cell? w _ hx384_0)).trans hx384_0
                    replace hx384_1 := (HB.out.cell (World.block_lt_of_cell? w _ hx384_1)).trans hx384_1
                    replace hx384_2 := (HB.out.cell (World.block_lt_of_cell? w _ hx384_2)).trans hx384_2
                    have HR384_2 := Aside0.mk hi384_2
                    have HC384_2 := Aside0.mk hl384_2
                    clear hi384_2 hl384_2
                    replace p384 := eq_true p384
                    replace q384 := eq_true q384
                    go_wp2
                    go_ret2
                    exact ⟨_, by first | rfl | (simp [errW_none, errW_some] <;> rfl) | (simp only [← hji56]; first | rfl | (simp [errW_none, errW_some] <;> rfl)) | (simp [*, errW_none, errW_some] <;> rfl), by (with_reducible repeat (first | apply Kd.R_alloc | apply Kd.R_drewN | apply Kd.R_drew)); exact Kd.R_mono HO_10.out (fun _ hk => trivial), bs_ HB.out GE373.out⟩
                  rw [if_neg c72] at H
                  have c72b0 : decide ((wrap64 (a3_1 + (l3_2.length : Int))) < a3_0) = false := decide_eq_false c72
                  clear c72
                  simp only [Option.some.injEq, Prod.mk.injEq] at H
                  obtain ⟨rfl, rfl⟩ := H
                  obtain ⟨hcz74_0, hcz74_1, hcz74_2, hfz74_0, hfz74_1, hfz74_2⟩ := bx3_ BK373.out
                  have p383 : 0 ≤ (0 : Int) := (by omega)
                  have q383 : 0 < (l3_2.length : Int) := od_
                  obtain ⟨ad383, A383_2, c383_2, e383, hx383_0, hx383_1, hx383_2, hl383_2, hi383_2⟩ := at_T63 HR3_2.out 0 p383 q383
                  cases e383
                  have qi383 : (0 < l3_2.length) = True := eq_true (by omega)
                  (try rw [show ((0 : Int)).toNat = 0 from rfl] at hx383_0)
                  (try rw [show 0 * 3 = 0 from rfl] at hx383_0)
                  (try rw [Addr.add_zero'] at hx383_0)
                  (try rw [show ((0 : Int)).toNat = 0 from rfl] at hx383_1)
                  (try rw [show 0 * 3 = 0 from rfl] at hx383_1)
                  (try rw [Addr.add_zero'] at hx383_1)
                  (try rw [show ((0 : Int)).toNat = 0 from rfl] at hx383_2)
                  (try rw [show 0 * 3 = 0 from rfl] at hx383_2)
                  (try rw [Addr.add_zero'] at hx383_2)
                  replace hx383_0 := (HB.out.cell (World.block_lt_of_cell? w _ hx383_0)).trans hx383_0
                  replace hx383_1 := (HB.out.cell (World.block_lt_of_cell? w _ hx383_1)).trans hx383_1
                  replace hx383_2 := (HB.out.cell (World.block_lt_of_cell? w _ hx383_2)).trans hx383_2
                  have HR383_2 := Aside0.mk hi383_2
                  have HC383_2 := Aside0.mk hl383_2
                  clear hi383_2 hl383_2
                  replace p383 := eq_true p383
                  replace q383 := eq_true q383
                  have p384 : 0 ≤ ((ji56) : Int) := od_
                  have q384 : (ji56) < (l3_2.length : Int) := od_
                  obtain ⟨ad384, A384_2, c384_2, e384, hx384_0, hx384_1, hx384_2, hl384_2, hi384_2⟩ := at_T63 HR3_2.out (ji56) p384 q384
                  obtain rfl : ad383 = ad384 := (by injection e384)
                  replace hx384_0 := (HB.out.cell (World.block_lt_of_cell? w _ hx384_0)).trans hx384_0
                  replace hx384_1 := (HB.out.cell (World.block_lt_of_cell? w _ hx384_1)).trans hx384_1
                  replace hx384_2 := (HB.out.cell (World.block_lt_of_cell? w _ hx384_2)).trans hx384_2
                  have HR384_2 := Aside0.mk hi384_2
                  have HC384_2 := Aside0.mk hl384_2
                  clear hi384_2 hl384_2
                  replace p384 := eq_true p384
                  replace q384 := eq_true q384
                  go_wp2
                  go_ret2
                  exact ⟨_, by first | rfl | (simp [errW_none, errW_some] <;> rfl) | (simp only [← hji56]; first | rfl | (simp [errW_none, errW_some] <;> rfl)) | (simp [*, errW_none, errW_some] <;> rfl), by (with_reducible repeat (first | apply Kd.R_alloc | apply Kd.R_drewN | apply Kd.R_drew)); exact Kd.R_mono HO_12.out (fun _ hk => trivial), bs_ HB.out GE373.out⟩
                · rw [if_neg c71] at H
                  have c71b0 : (a2.toList == ([] : List UInt8)) = false := beq_eq_false_iff_ne.mpr c71
                  have c71b1 : (a2.toList != ([] : List UInt8)) = true := bne_iff_ne.mpr c71
                  by_cases c75 : (Op.bytesLess (((rd_T63 l3_2 (ji56)).f0.f0).toList) a2.toList) = true
                  · rw [if_pos c75] at H
                    have c75b0 : (Op.bytesLess (((rd_T63 l3_2 (ji56)).f0.f0).toList) a2.toList) = true := c75
                    clear c75
                    by_cases c76 : (wrap64 (a3_1 + (l3_2.length : Int))) < a3_0
                    · rw [if_pos c76] at H
                      have c76b0 : decide ((wrap64 (a3_1 + (l3_2.length : Int))) < a3_0) = true := decide_eq_true c76
                      clear c76
                      simp only [Option.some.injEq, Prod.mk.injEq] at H
                      obtain ⟨rfl, rfl⟩ := H
                      obtain ⟨hcz77_0, hcz77_1, hcz77_2, hfz77_0, hfz77_1, hfz77_2⟩ := bx3_ BK373.out
                      have p383 : 0 ≤ (0 : Int) := (by omega)
                      have q383 : 0 < (l3_2.length : Int) := od_
                      obtain ⟨ad383, A383_2, c383_2, e383, hx383_0, hx383_1, hx383_2, hl383_2, hi383_2⟩ := at_T63 HR3_2.out 0 p383 q383
                      cases e383
                      have qi383 : (0 < l3_2.length) = True := eq_true (by omega)
                      (try rw [show ((0 : Int)).toNat = 0 from rfl] at hx383_0)
                      (try rw [show 0 * 3 = 0 from rfl] at hx383_0)
                      (try rw [Addr.add_zero'] at hx383_0)
                      (try rw [show ((0 : Int)).toNat = 0 from rfl] at hx383_1)
                      (try rw [show 0 * 3 = 0 from rfl] at hx383_1)
                      (try rw [Addr.add_zero'] at hx383_1)
                      (try rw [show ((0 : Int)).toNat = 0 from rfl] at hx383_2)
                      (try rw [show 0 * 3 = 0 from rfl] at hx383_2)
                      (try rw [Addr.add_zero'] at hx383_2)
                      replace hx383_0 := (HB.out.cell (World.block_lt_of_cell? w _ hx383_0)).trans hx383_0
                      replace hx383_1 := (HB.out.cell (World.block_lt_of_cell? w _ hx383_1)).trans hx383_1
                      replace hx383_2 := (HB.out.cell (World.block_lt_of_cell? w _ hx383_2)).trans hx383_2
                      have HR383_2 := Aside0.mk hi383_2
                      have HC383_2 := Aside0.mk hl383_2
                      clear hi383_2 hl383_2
                      replace p383 := eq_true p383
                      replace q383 := eq_true q383
                      have p384 : 0 ≤ ((ji56) : Int) := od_
                      have q384 : (ji56) < (l3_2.length : Int) := od_
                      obtain ⟨ad384, A384_2, c384_2, e384, hx384_0, hx384_1, hx384_2, hl384_2, hi384_2⟩ := at_T63 HR3_2.out (ji56) p384 q384
                      obtain rfl : ad383 = ad384 := (by injection e384)
                      replace hx384_0 := (HB.out.cell (World.block_lt_of_cell? w _ hx384_0)).trans hx384_0
                      replace hx384_1 := (HB.out.cell (World.block_lt_of_cell? w _ hx384_1)).trans hx384_1
                      replace hx384_2 := (HB.out.cell (World.block_lt_of_cell? w _ hx384_2)).trans hx384_2
                      have HR384_2 := Aside0.mk hi384_2
                      have HC384_2 := Aside0.mk hl384_2
                      clear hi384_2 hl384_2
                      replace p384 := eq_true p384
                      replace q384 := eq_true q384
                      go_wp2
                      go_ret2
                      exact ⟨_, by first | rfl | (simp [errW_none, errW_some] <;> rfl) | (simp only [← hji56]; first | rfl | (simp [errW_none, errW_some] <;> rfl)) | (simp [*, errW_none, errW_some] <;> rfl), by (with_reducible repeat (first | apply Kd.R_alloc | apply Kd.R_drewN | apply Kd.R_drew)); exact Kd.R_mono HO_10.out (fun _ hk => trivial), bs_ HB.out GE373.out⟩
                    rw [if_neg c76] at H
                    have c76b0 : decide ((wrap64 (a3_1 + (l3_2.length : Int))) < a3_0) = false := decide_eq_false c76
                    clear c76
                    simp only [Option.some.injEq, Prod.mk.injEq] at H
                    obtain ⟨rfl, rfl⟩ := H
                    obtain ⟨hcz78_0, hcz78_1, hcz78_2, hfz78_0, hfz78_1, hfz78_2⟩ := bx3_ BK373.out
                    have p383 : 0 ≤ (0 : Int) := (by omega)
                    have q383 : 0 < (l3_2.length : Int) := od_
                    obtain ⟨ad383, A383_2, c383_2, e383, hx383_0, hx383_1, hx383_2, hl383_2, hi383_2⟩ := at_T63 HR3_2.out 0 p383 q383
                    cases e383
                    have qi383 : (0 < l3_2.length) = True := eq_true (by omega)
                    (try rw [show ((0 : Int)).toNat = 0 from rfl] at hx383_0)
                    (try rw [show 0 * 3 = 0 from rfl] at hx383_0)
                    (try rw [Addr.add_zero'] at hx383_0)
                    (try rw [show ((0 : Int)).toNat = 0 from rfl] at hx383_1)
                    (try rw [show 0 * 3 = 0 from rfl] at hx383_1)
                    (try rw [Addr.add_zero'] at hx383_1)
                    (try rw [show ((0 : Int)).toNat = 0 from rfl] at hx383_2)
                    (try rw [show 0 * 3 = 0 from rfl] at hx383_2)
                    (try rw [Addr.add_zero'] at hx383_2)
                    replace hx383_0 := (HB.out.cell (World.block_lt_of_cell? w _ hx383_0)).trans hx383_0
                    replace hx383_1 := (HB.out.cell (World.block_lt_of_cell? w _ hx383_1)).trans hx383_1
                    replace hx383_2 := (HB.out.cell (World.block_lt_of_cell? w _ hx383_2)).trans hx383_2
                    have HR383_2 := Aside0.mk hi383_2
                    have HC383_2 := Aside0.mk hl383_2
                    clear hi383_2 hl383_2
                    replace p383 := eq_true p383
                    replace q383 := eq_true q383
                    have p384 : 0 ≤ ((ji56) : Int) := od_
                    have q384 : (ji56) < (l3_2.length : Int) := od_
                    obtain ⟨ad384, A384_2, c384_2, e384, hx384_0, hx384_1, hx384_2, hl384_2, hi384_2⟩ := at_T63 HR3_2.out (ji56) p384 q384
                    obtain rfl : ad383 = ad384 := (by injection e384)
                    replace hx384_0 := (HB.out.cell (World.block_lt_of_cell? w _ hx384_0)).trans hx384_0
                    replace hx384_1 := (HB.out.cell (World.block_lt_of_cell? w _ hx384_1)).trans hx384_1
                    replace hx384_2 := (HB.out.cell (World.block_lt_of_cell? w _ hx384_2)).trans hx384_2
                    have HR384_2 := Aside0.mk hi384_2
                    have HC384_2 := Aside0.mk hl384_2
                    clear hi384_2 hl384_2
                    replace p384 := eq_true p384
                    replace q384 := eq_true q384
                    go_wp2
                    go_ret2
                    exact ⟨_, by first | rfl | (simp [errW_none, errW_some] <;> rfl) | (simp only [← hji56]; first | rfl | (simp [errW_none, errW_some] <;> rfl)) | (simp [*, errW_none, errW_some] <;> rfl), by (with_reducible repeat (first | apply Kd.R_alloc | apply Kd.R_drewN | apply Kd.R_drew)); exact Kd.R_mono HO_12.out (fun _ hk => trivial), bs_ HB.out GE373.out⟩
                  · rw [if_neg c75] at H
                    have c75b0 : (Op.bytesLess (((rd_T63 l3_2 (ji56)).f0.f0).toList) a2.toList) = false := by simpa using c75
                    clear c75
                    simp only [Option.some.injEq, Prod.mk.injEq] at H
                    obtain ⟨rfl, rfl⟩ := H
                    obtain ⟨hcz79_0, hcz79_1, hcz79_2, hfz79_0, hfz79_1, hfz79_2⟩ := bx3_ BK373.out
                    have p383 : 0 ≤ (0 : Int) := (by omega)
                    have q383 : 0 < (l3_2.length : Int) := od_
                    obtain ⟨ad383, A383_2, c383_2, e383, hx383_0, hx383_1, hx383_2, hl383_2, hi383_2⟩ := at_T63 HR3_2.out 0 p383 q383
                    cases e383
                    have qi383 : (0 < l3_2.length) = True := eq_true (by omega)
                    (try rw [show ((0 : Int)).toNat = 0 from rfl] at hx383_0)
                    (try rw [show 0 * 3 = 0 from rfl] at hx383_0)
                    (try rw [Addr.add_zero'] at hx383_0)
                    (try rw [show ((0 : Int)).toNat = 0 from rfl] at hx383_1)
                    (try rw [show 0 * 3 = 0 from rfl] at hx383_1)
                    (try rw [Addr.add_zero'] at hx383_1)
                    (try rw [show ((0 : Int)).toNat = 0 from rfl] at hx383_2)
                    (try rw [show 0 * 3 = 0 from rfl] at hx383_2)
                    (try rw [Addr.add_zero'] at hx383_2)
                    replace hx383_0 := (HB.out.cell (World.block_lt_of_cell? w _ hx383_0)).trans hx383_0
                    replace hx383_1 := (HB.out.cell (World.block_lt_of_cell? w _ hx383_1)).trans hx383_1
                    replace hx383_2 := (HB.out.cell (World.block_lt_of_cell? w _ hx383_2)).trans hx383_2
                    have HR383_2 := Aside0.mk hi383_2
                    have HC383_2 := Aside0.mk hl383_2
                    clear hi383_2 hl383_2
                    replace p383 := eq_true p383
                    replace q383 := eq_true q383
                    have p384 : 0 ≤ ((ji56) : Int) := od_
                    have q384 : (ji56) < (l3_2.length : Int) := od_
                    obtain ⟨ad384, A384_2, c384_2, e384, hx384_0, hx384_1, hx384_2, hl384_2, hi384_2⟩ := at_T63 HR3_2.out (ji56) p384 q384
                    obtain rfl : ad383 = ad384 := (by injection e384)
                    replace hx384_0 := (HB.out.cell (World.block_lt_of_cell? w _ hx384_0)).trans hx384_0
                    replace hx384_1 := (HB.out.cell (World.block_lt_of_cell? w _ hx384_1)).trans hx384_1
                    replace hx384_2 := (HB.out.cell (World.block_lt_of_cell? w _ hx384_2)).trans hx384_2
                    have HR384_2 := Aside0.mk hi384_2
                    have HC384_2 := Aside0.mk hl384_2
                    clear hi384_2 hl384_2
                    replace p384 := eq_true p384
                    replace q384 := eq_true q384
                    go_wp2
                    go_ret2
                    exact ⟨_, by first | rfl | (simp [errW_none, errW_some] <;> rfl) | (simp only [← hji56]; first | rfl | (simp [errW_none, errW_some] <;> rfl)) | (simp [*, errW_none, errW_some] <;> rfl), by (with_reducible repeat (first | apply Kd.R_alloc | apply Kd.R_drewN | apply Kd.R_drew)); exact Kd.R_mono HO_12.out (fun _ hk => trivial), bs_ HB.out GE373.out⟩

/-! ###  laws_toPair: function 43 -/
def laws_toPair.f (a0_0 : ByteArray) (a0_1 : ByteArray) : Option (ByteArray × ByteArray) := some (a0_0, a0_1)
set_option maxHeartbeats 8000000 in
set_option maxRecDepth 100000 in
theorem laws_toPair.calls (a0_0 : ByteArray) (a0_1 : ByteArray) (r1 : ByteArray) (r2 : ByteArray) (w : World) (h : laws_toPair.f a0_0 a0_1 = some (r1, r2)) :
  Calls Try.prog 43 #[.agg #[.string a0_0, .string a0_1]] w fun e w' => e = .returned (.agg #[.string r1, .string r2]) ∧ Below w.heap.size w w' := by
  have hu66 := Try.underlying66
  have hu26 := Try.underlying26
  have HB := q_ (Below.refl w.heap.size w)
  have H : (some (a0_0, a0_1)) = some (r1, r2) := h
  clear h
  simp only [Option.some.injEq, Prod.mk.injEq] at H
  obtain ⟨rfl, rfl⟩ := H
  go_enter Try.func43, Try.ntmps43
  go_wp2_with (first | ((with_reducible refine gate_dst (N := 1) rfl ?_); refine box_event rfl (N := 1) rfl (cs := #[.string a0_0, .string a0_1]) (t := 66) hr_ ?_; intro gb392 hg w2 hbox hb; have BK392 := q_ (hbox); have GW392 := q_ ((by rw [hg]; exact (below_size (be_ HB.out)) : w.heap.size ≤ gb392)); have GE392 := q_ ((by rw [hg]; exact (below_size (be_ HB.out)) : w.heap.size ≤ gb392)); replace HB := q_ (below_step (be_ HB.out) hb); clear hb hbox hg) | ((with_reducible refine gate_dst (N := 2) rfl ?_); refine box_event rfl (N := 2) rfl (cs := #[.string (⟨#[]⟩ : ByteArray), .string (⟨#[]⟩ : ByteArray)]) (t := 26) hr_ ?_; intro gb393 hg w3 hbox hb; have BK393 := q_ (hbox); have GW393 := q_ ((by rw [hg]; exact (below_size (bs_ HB.out GE392.out)) : w.heap.size ≤ gb393)); have GE393 := q_ ((by rw [hg]; exact (below_size (bs_ HB.out GE392.out)) : w.heap.size ≤ gb393)); replace HB := q_ (below_step (bs_ HB.out GE392.out) hb); have NB392_393 := q_ ((by rw [hg]; exact Nat.ne_of_lt (blk_lt (g := gb392) (o := .cells #[.string a0_0, .string a0_1] 66 (0, 0)) (bk_ BK392.out)) : gb392 ≠ gb393)); have NB393_392 := q_ ((by rw [hg]; exact Nat.ne_of_gt (blk_lt (g := gb392) (o := .cells #[.string a0_0, .string a0_1] 66 (0, 0)) (bk_ BK392.out)) : gb393 ≠ gb392)); replace BK392 := q_ (bb_ BK392.out hb); clear hb hbox hg) | ((with_reducible refine gate_dst (N := 3) rfl ?_); refine box_event rfl (N := 3) rfl (cs := #[.string (⟨#[]⟩ : ByteArray), .string (⟨#[]⟩ : ByteArray)]) (t := 26) hr_ ?_; intro gb394 hg w4 hbox hb; have BK394 := q_ (hbox); have GW394 := q_ ((by rw [hg]; exact (below_size (b2_ HB.out GE392.out GE393.out)) : w.heap.size ≤ gb394)); have GE394 := q_ ((by rw [hg]; exact (below_size (b2_ HB.out GE392.out GE393.out)) : w.heap.size ≤ gb394)); replace HB := q_ (below_step (b2_ HB.out GE392.out GE393.out) hb); have NB392_394 := q_ ((by rw [hg]; exact Nat.ne_of_lt (blk_lt (g := gb392) (o := .cells #[.string a0_0, .string a0_1] 66 (0, 0)) (bk_ BK392.out)) : gb392 ≠ gb394)); have NB394_392 := q_ ((by rw [hg]; exact Nat.ne_of_gt (blk_lt (g := gb392) (o := .cells #[.string a0_0, .string a0_1] 66 (0, 0)) (bk_ BK392.out)) : gb394 ≠ gb392)); replace BK392 := q_ (bb_ BK392.out hb); have NB393_394 := q_ ((by rw [hg]; exact Nat.ne_of_lt (blk_lt (g := gb393) (o := .cells #[.string (⟨#[]⟩ : ByteArray), .string (⟨#[]⟩ : ByteArray)] 26 (0, 0)) (bk_ BK393.out)) : gb393 ≠ gb394)); have NB394_393 := q_ ((by rw [hg]; exact Nat.ne_of_gt (blk_lt (g := gb393) (o := .cells #[.string (⟨#[]⟩ : ByteArray), .string (⟨#[]⟩ : ByteArray)] 26 (0, 0)) (bk_ BK393.out)) : gb394 ≠ gb393)); replace BK393 := q_ (bb_ BK393.out hb); clear hb hbox hg; have hnb5 := NB392_393.out; have hnc5 := NB393_392.out; have hnb6 := NB392_394.out; have hnc6 := NB394_392.out; obtain ⟨hcz7_0, hcz7_1, hfz7_0, hfz7_1⟩ := bx2_ BK392.out; have hnb8 := NB394_393.out; have hnc8 := NB393_394.out; obtain ⟨hcz9_0, hcz9_1, hfz9_0, hfz9_1⟩ := bx2_ BK394.out; obtain ⟨hcz10_0, hcz10_1, hfz10_0, hfz10_1⟩ := bx2_ BK393.out))
  refine bodyPost_ret (results_cell_row rfl _ _ gb393 26 #[.string a0_0, .string a0_1] (0, 0) _ rfl (by (with_reducible repeat (first | refine blk_drewN ?_ _ | refine blk_drew ?_ | refine blk_alloc ?_ _)); refine blk_put (cs := #[.string a0_0, .string (⟨#[]⟩ : ByteArray)]) ?_ 1 _ rfl; (with_reducible repeat (first | refine blk_drewN ?_ _ | refine blk_drew ?_ | refine blk_alloc ?_ _)); refine blk_put (cs := #[.string (⟨#[]⟩ : ByteArray), .string (⟨#[]⟩ : ByteArray)]) ?_ 0 _ rfl; (with_reducible repeat (first | refine blk_drewN ?_ _ | refine blk_drew ?_ | refine blk_alloc ?_ _)); refine blk_far ?_ NB393_394.out _; (with_reducible repeat (first | refine blk_drewN ?_ _ | refine blk_drew ?_ | refine blk_alloc ?_ _)); refine blk_far ?_ NB393_394.out _; (with_reducible repeat (first | refine blk_drewN ?_ _ | refine blk_drew ?_ | refine blk_alloc ?_ _)); exact BK393.out) Try.underlying26 rfl (by kernel_rfl)) rfl ?_
  exact ⟨rf_, b3_ HB.out GE392.out GE393.out GE394.out⟩

/-! ###  laws_toStringS: function 44 -/
def laws_toStringS.l0 : Nat → List ByteArray → List ByteArray → Int → Option (List ByteArray)
  | 0, _, _, _ => none
  | k + 1, x0, x3, x4 => if x4 < (x0.length : Int) then (if 0 ≤ x4 then (if x4 < (x3.length : Int) then (laws_toStringS.l0 k x0 (x3.set (x4 : Int).toNat (rdOf ByteArray.empty x0 x4)) (wrap64 (x4 + 1))) else (none)) else (none)) else (some x3)
def laws_toStringS.f (k : Nat) (l0 : List ByteArray) : Option (List ByteArray) := if 0 ≤ (l0.length : Int) then (if ((l0.length : Int) : Int).toNat ≤ 17592186044416 then (laws_toStringS.l0 k l0 (List.replicate ((l0.length : Int) : Int).toNat (⟨#[]⟩ : ByteArray)) 0) else (none)) else (none)
set_option maxHeartbeats 8000000 in
set_option maxRecDepth 100000 in
theorem laws_toStringS.calls (k : Nat) (A0 : Option Addr) (c0 : Nat) (l0 : List ByteArray) (r : List ByteArray) (w : World) (hr0 : Kd.C Kd.string w A0 l0.length l0) (hc0 : l0.length ≤ c0) (h : laws_toStringS.f k l0 = some r) :
  Calls Try.prog 44 #[.slice A0 l0.length c0] w fun e w' => ∃ v0_ : Value, e = .returned (v0_) ∧ Kd.R Kd.string 9 w' w.heap.size (fun _ => True) v0_ r ∧ Below w.heap.size w w' := by
  have HR0 := Aside0.mk hr0
  have HC0 := Aside0.mk hc0
  clear hr0 hc0
  have HB := q_ (Below.refl w.heap.size w)
  have H : (if 0 ≤ (l0.length : Int) then (if ((l0.length : Int) : Int).toNat ≤ 17592186044416 then (laws_toStringS.l0 k l0 (List.replicate ((l0.length : Int) : Int).toNat (⟨#[]⟩ : ByteArray)) 0) else (none)) else (none)) = some r := h
  clear h
  by_cases c2 : 0 ≤ (l0.length : Int)
  rotate_left
  · rw [if_neg c2] at H; exact absurd H (by simp)
  rw [if_pos c2] at H
  have c2b0 := eq_true c2
  have c2b1 : decide (0 ≤ (l0.length : Int)) = true := decide_eq_true c2
  clear c2
  by_cases c3 : ((l0.length : Int) : Int).toNat ≤ 17592186044416
  rotate_left
  · rw [if_neg c3] at H; exact absurd H (by simp)
  rw [if_pos c3] at H
  have c3b0 := eq_true c3
  have c3b1 : decide (((l0.length : Int) : Int).toNat ≤ 17592186044416) = true := decide_eq_true c3
  clear c3
  obtain ⟨y395, hy395⟩ : ∃ y_ : List ByteArray, y_ = (List.replicate ((l0.length : Int) : Int).toNat (⟨#[]⟩ : ByteArray)) := ⟨_, rfl⟩
  replace H : (laws_toStringS.l0 k l0 y395 0) = some r := ry_ hy395 H
  have Ny395 := Aside0.mk hy395
  clear hy395
  have H' := Aside0.mk H
  clear H
  go_enter Try.func44, Try.ntmps44
  go_wp2_with (first | ((with_reducible refine gate_dst (N := 7) rfl ?_); refine Kd.R_make Kd.string _ 9 rfl (N := 7) rfl 27 _ _ rfl (l0.length : Int) rfl rfl Try.underlying27 (.string ⟨#[]⟩) 16 info9 rfl (by decide) (by omega) (⟨#[]⟩ : ByteArray) (ok := fun _ => True) (okp := fun _ => True) rfl (fun _ hk => hk) trivial od_ (Nat.le_trans (Nat.mul_le_mul_right _ (od_ : (l0.length : Int).toNat ≤ 17592186044416)) (by omega)) (Below.refl _ _) (Nat.le_refl _) ?_; intro v396 w4 ho5 hb hg_ hnew_; clear hg_ hnew_; (first | rw [← Ny395.out] at ho5 | (simp only [Int.reduceToNat] at ho5; rw [← Ny395.out] at ho5)); have HO397 := q_ (Kd.R_lower ho5 (below_size (be_ HB.out))); replace HB := q_ (below_step (be_ HB.out) hb); clear hb ho5))
  go_loopg [4] k (fun kq v4 w' => ∃ (x3_1 : List ByteArray) (x4_1 : Int), v4 = .int .i64 x4_1 ∧ Aside0 (laws_toStringS.l0 kq l0 x3_1 x4_1 = some r) ∧ Aside0 (kq ≤ k) ∧ Aside0 (Kd.R Kd.string 9 w' w.heap.size (fun _ => True) v396 x3_1) ∧ Aside0 (Below w.heap.size w w'))
  case atStart => exact ⟨(y395), (0), rs_, H', ⟨Nat.le_refl _⟩, ⟨by (with_reducible repeat (first | apply Kd.R_alloc | apply Kd.R_drewN | apply Kd.R_drew)); exact HO397.out⟩, ⟨be_ HB.out⟩⟩
  case round =>
   clear H'
   try clear c2
   try clear c2b0
   try clear c2b1
   try clear p2
   try clear c3
   try clear c3b0
   try clear c3b1
   try clear c4
   obtain ⟨x3_1, x4_1, rfl, HA, HK1, HO_3, HB⟩ := hrel
   cases gk with
   | zero => exact absurd HA.out (by simp [laws_toStringS.l0])
   | succ k1 =>
    have H := HA.out
    clear HA
    simp only [laws_toStringS.l0] at H
    by_cases c6 : x4_1 < (l0.length : Int)
    · rw [if_pos c6] at H
      have c6b0 : decide (x4_1 < (l0.length : Int)) = true := decide_eq_true c6
      clear c6
      by_cases c7 : 0 ≤ x4_1
      rotate_left
      · rw [if_neg c7] at H; exact absurd H (by simp)
      rw [if_pos c7] at H
      have c7b0 : decide (0 ≤ x4_1) = true := decide_eq_true c7
      clear c7
      by_cases c8 : x4_1 < (x3_1.length : Int)
      rotate_left
      · rw [if_neg c8] at H; exact absurd H (by simp)
      rw [if_pos c8] at H
      have c8b0 : decide (x4_1 < (x3_1.length : Int)) = true := decide_eq_true c8
      clear c8
      obtain ⟨y399, hy399⟩ : ∃ y_ : List ByteArray, y_ = (x3_1.set (x4_1 : Int).toNat (rdOf ByteArray.empty l0 x4_1)) := ⟨_, rfl⟩
      replace H : (laws_toStringS.l0 k1 l0 y399 (wrap64 (x4_1 + 1))) = some r := ry_ hy399 H
      have Ny399 := Aside0.mk hy399
      clear hy399
      have H' := Aside0.mk H
      clear H
      have p398 : 0 ≤ (x4_1 : Int) := od_
      have q398 : x4_1 < (l0.length : Int) := od_
      obtain ⟨ad398, e398, hx398_0⟩ := Kd.at_string HR0.out x4_1 p398 q398
      cases e398
      replace hx398_0 := (HB.out.cell (World.block_lt_of_cell? w _ hx398_0)).trans hx398_0
      replace p398 := eq_true p398
      replace q398 := eq_true q398
      have p9 : 0 ≤ (x4_1 : Int) := od_
      have q9 : (x4_1 : Int) < ((x3_1.length : Int) : Int) := od_
      obtain ⟨go9, co9, eo9, gb9, gl9, cl9, HG9⟩ := Kd.R_form HO_3.out (by omega)
      (first | cases eo9 | (injection eo9 with ea_ en_ ec_; (first | subst ea_ | (injection ea_ with ea_; subst ea_)); subst ec_; clear en_))
      have GB9 := Aside0.mk gb9
      have GG9 := Aside0.mk HG9
      clear gb9 gl9 HG9
      obtain ⟨hx9_0, hf9_0⟩ := Kd.R_celln (⟨#[]⟩ : ByteArray) HO_3.out (x4_1 : Int) p9 q9
      replace p9 := eq_true p9
      replace q9 := eq_true q9
      have HP10 := Kd.R_putg HO_3.out (x4_1 : Int) (rdOf ByteArray.empty l0 x4_1)
      go_wp2_with (first | ((with_reducible refine gate_store (t := 9) (p := 20) rfl ?_); refine store_event (t := 9) (p := 20) (v := ?vo_w11) (w1 := (wr.setCell ⟨go9, (x4_1 : Int).toNat, none⟩ (.string (rdOf ByteArray.empty l0 x4_1)))) ?hg ?ho ?hn ?hr ?_; (case ho => rfl); (case hg => rfl); (case hn => rfl); (case hr => first | (go_simp; done) | (go_simp; rfl)); intro w11 hw; have hg : wr.grownBy w11 (some go9) := (by rw [hw]; exact HP10.2); have hp_ : Kd.R Kd.string 9 w11 w.heap.size (fun _ => True) (.slice (some ⟨go9, 0, none⟩) x3_1.length co9) y399 := (by rw [hw, Ny399.out]; exact HP10.1); clear HP10; replace HO_3 := q_ (hp_); replace HB := q_ ((by rw [hw]; exact below_set (HB.out) GB9.out : Below w.heap.size w w11)); clear hg hw hp_))
      go_roundg k1
      case measure => have := HK1.out; omega
      case rel => exact ⟨(y399), (wrap64 (x4_1 + 1)), rs_, H', ⟨by have := HK1.out; omega⟩, ⟨by (with_reducible repeat (first | apply Kd.R_alloc | apply Kd.R_drewN | apply Kd.R_drew)); exact HO_3.out⟩, ⟨be_ HB.out⟩⟩
    · rw [if_neg c6] at H
      have c6b0 : decide (x4_1 < (l0.length : Int)) = false := decide_eq_false c6
      clear c6
      obtain rfl := Option.some.inj H
      go_wp2
      go_ret
      exact ⟨_, rf_, by (with_reducible repeat (first | apply Kd.R_alloc | apply Kd.R_drewN | apply Kd.R_drew)); exact HO_3.out, be_ HB.out⟩

/-! ###  laws_toItem: function 113 -/
def laws_toItem.f (k : Nat) (a0_0 : ByteArray) (a0_1 : ByteArray) (l0_2 : List ByteArray) : Option (ByteArray × ByteArray × List ByteArray) := (laws_toPair.f a0_0 a0_1).bind fun bt403 => ((laws_toStringS.f k l0_2).bind fun t405 => (some (bt403.1, bt403.2, t405)))
set_option maxHeartbeats 8000000 in
set_option maxRecDepth 100000 in
theorem laws_toItem.calls (k : Nat) (a0_0 : ByteArray) (a0_1 : ByteArray) (A0_2 : Option Addr) (c0_2 : Nat) (l0_2 : List ByteArray) (r1 : ByteArray) (r2 : ByteArray) (r3 : List ByteArray) (w : World) (hr0_2 : Kd.C Kd.string w A0_2 l0_2.length l0_2) (hc0_2 : l0_2.length ≤ c0_2) (h : laws_toItem.f k a0_0 a0_1 l0_2 = some (r1, r2, r3)) :
  Calls Try.prog 113 #[.agg #[.string a0_0, .string a0_1, .slice A0_2 l0_2.length c0_2]] w fun e w' => ∃ v2_ : Value, e = .returned (.agg #[.string r1, .string r2, v2_]) ∧ Kd.R Kd.string 9 w' w.heap.size (fun _ => True) v2_ r3 ∧ Below w.heap.size w w' := by
  have hu131 := Try.underlying131
  have hu63 := Try.underlying63
  have hu66 := Try.underlying66
  have hu26 := Try.underlying26
  have HR0_2 := Aside0.mk hr0_2
  have HC0_2 := Aside0.mk hc0_2
  clear hr0_2 hc0_2
  have HB := q_ (Below.refl w.heap.size w)
  have H : ((laws_toPair.f a0_0 a0_1).bind fun bt403 => ((laws_toStringS.f k l0_2).bind fun t405 => (some (bt403.1, bt403.2, t405)))) = some (r1, r2, r3) := h
  clear h
  replace H := Option.bind_eq_some_iff.mp H
  obtain ⟨⟨t403, t404⟩, A20, H⟩ := H; try dsimp only at H
  have A2 := Aside0.mk A20
  clear A20
  replace H := Option.bind_eq_some_iff.mp H
  obtain ⟨t405, A30, H⟩ := H
  have A3 := Aside0.mk A30
  clear A30
  simp only [Option.some.injEq, Prod.mk.injEq] at H
  obtain ⟨rfl, rfl, rfl⟩ := H
  go_enter Try.func113, Try.ntmps113
  go_wp2_with (first | ((with_reducible refine gate_dst (N := 1) rfl ?_); refine box_event rfl (N := 1) rfl (cs := #[.string a0_0, .string a0_1, .slice A0_2 l0_2.length c0_2]) (t := 131) hr_ ?_; intro gb400 hg w4 hbox hb; have BK400 := q_ (hbox); have GW400 := q_ ((by rw [hg]; exact (below_size (be_ HB.out)) : w.heap.size ≤ gb400)); have GE400 := q_ ((by rw [hg]; exact (below_size (be_ HB.out)) : w.heap.size ≤ gb400)); replace HB := q_ (below_step (be_ HB.out) hb); clear hb hbox hg) | ((with_reducible refine gate_dst (N := 2) rfl ?_); refine box_event rfl (N := 2) rfl (cs := #[.string (⟨#[]⟩ : ByteArray), .string (⟨#[]⟩ : ByteArray), .slice none 0 0]) (t := 63) hr_ ?_; intro gb401 hg w5 hbox hb; have BK401 := q_ (hbox); have GW401 := q_ ((by rw [hg]; exact (below_size (bs_ HB.out GE400.out)) : w.heap.size ≤ gb401)); have GE401 := q_ ((by rw [hg]; exact (below_size (bs_ HB.out GE400.out)) : w.heap.size ≤ gb401)); replace HB := q_ (below_step (bs_ HB.out GE400.out) hb); have NB400_401 := q_ ((by rw [hg]; exact Nat.ne_of_lt (blk_lt (g := gb400) (o := .cells #[.string a0_0, .string a0_1, .slice A0_2 l0_2.length c0_2] 131 (0, 0)) (bk_ BK400.out)) : gb400 ≠ gb401)); have NB401_400 := q_ ((by rw [hg]; exact Nat.ne_of_gt (blk_lt (g := gb400) (o := .cells #[.string a0_0, .string a0_1, .slice A0_2 l0_2.length c0_2] 131 (0, 0)) (bk_ BK400.out)) : gb401 ≠ gb400)); replace BK400 := q_ (bb_ BK400.out hb); clear hb hbox hg) | ((with_reducible refine gate_dst (N := 3) rfl ?_); refine box_event rfl (N := 3) rfl (cs := #[.string (⟨#[]⟩ : ByteArray), .string (⟨#[]⟩ : ByteArray), .slice none 0 0]) (t := 63) hr_ ?_; intro gb402 hg w6 hbox hb; have BK402 := q_ (hbox); have GW402 := q_ ((by rw [hg]; exact (below_size (b2_ HB.out GE400.out GE401.out)) : w.heap.size ≤ gb402)); have GE402 := q_ ((by rw [hg]; exact (below_size (b2_ HB.out GE400.out GE401.out)) : w.heap.size ≤ gb402)); replace HB := q_ (below_step (b2_ HB.out GE400.out GE401.out) hb); have NB400_402 := q_ ((by rw [hg]; exact Nat.ne_of_lt (blk_lt (g := gb400) (o := .cells #[.string a0_0, .string a0_1, .slice A0_2 l0_2.length c0_2] 131 (0, 0)) (bk_ BK400.out)) : gb400 ≠ gb402)); have NB402_400 := q_ ((by rw [hg]; exact Nat.ne_of_gt (blk_lt (g := gb400) (o := .cells #[.string a0_0, .string a0_1, .slice A0_2 l0_2.length c0_2] 131 (0, 0)) (bk_ BK400.out)) : gb402 ≠ gb400)); replace BK400 := q_ (bb_ BK400.out hb); have NB401_402 := q_ ((by rw [hg]; exact Nat.ne_of_lt (blk_lt (g := gb401) (o := .cells #[.string (⟨#[]⟩ : ByteArray), .string (⟨#[]⟩ : ByteArray), .slice none 0 0] 63 (0, 0)) (bk_ BK401.out)) : gb401 ≠ gb402)); have NB402_401 := q_ ((by rw [hg]; exact Nat.ne_of_gt (blk_lt (g := gb401) (o := .cells #[.string (⟨#[]⟩ : ByteArray), .string (⟨#[]⟩ : ByteArray), .slice none 0 0] 63 (0, 0)) (bk_ BK401.out)) : gb402 ≠ gb401)); replace BK401 := q_ (bb_ BK401.out hb); clear hb hbox hg; have hnb7 := NB400_401.out; have hnc7 := NB401_400.out; have hnb8 := NB400_402.out; have hnc8 := NB402_400.out; obtain ⟨hcz9_0, hcz9_1, hcz9_2, hfz9_0, hfz9_1, hfz9_2⟩ := bx3_ BK400.out) | ((with_reducible refine gate_callee (f := 43) rfl ?_); refine gl_ (some 6) Try.func43 #[.agg #[.string a0_0, .string a0_1]] rfl al_ ?_; (with_reducible refine (laws_toPair.calls a0_0 a0_1 t403 t404 _ A2.out).mono ?_); rintro e w10 ⟨rfl, hb⟩; refine ⟨_, rfl, ?_⟩; replace BK400 := q_ (bb_ BK400.out hb); replace BK401 := q_ (bb_ BK401.out hb); replace BK402 := q_ (bb_ BK402.out hb); replace HB := q_ (below_step (b3_ HB.out GE400.out GE401.out GE402.out) hb); (try clear hb); have hnb11 := NB402_401.out; have hnc11 := NB401_402.out; obtain ⟨hcz12_0, hcz12_1, hcz12_2, hfz12_0, hfz12_1, hfz12_2⟩ := bx3_ BK402.out; obtain ⟨hcz13_0, hcz13_1, hcz13_2, hfz13_0, hfz13_1, hfz13_2⟩ := bx3_ BK400.out) | ((with_reducible refine gate_callee (f := 44) rfl ?_); refine gl_ (some 10) Try.func44 #[.slice A0_2 l0_2.length c0_2] rfl al_ ?_; (with_reducible refine (laws_toStringS.calls k _ _ l0_2 t405 _ ?side1 ?side2 A3.out).mono ?_); (case side1 => exact Kd.C_below HR0_2.out (b3_ HB.out GE400.out GE401.out GE402.out)); (case side2 => exact HC0_2.out); rintro e w14 ⟨v406, rfl, ho0, hb⟩; refine ⟨_, rfl, ?_⟩; have HO407 := q_ (Kd.R_lower ho0 (below_size (b3_ HB.out GE400.out GE401.out GE402.out))); replace BK400 := q_ (blk_below (g := gb400) (o := .cells #[.string a0_0, .string a0_1, .slice A0_2 l0_2.length c0_2] 131 (0, 0)) (by (with_reducible repeat (first | refine blk_drewN ?_ _ | refine blk_drew ?_ | refine blk_alloc ?_ _)); refine blk_far ?_ NB400_402.out _; (with_reducible repeat (first | refine blk_drewN ?_ _ | refine blk_drew ?_ | refine blk_alloc ?_ _)); refine blk_far ?_ NB400_402.out _; (with_reducible repeat (first | refine blk_drewN ?_ _ | refine blk_drew ?_ | refine blk_alloc ?_ _)); exact BK400.out) hb); replace BK401 := q_ (blk_below (g := gb401) (o := .cells #[.string (⟨#[]⟩ : ByteArray), .string (⟨#[]⟩ : ByteArray), .slice none 0 0] 63 (0, 0)) (by (with_reducible repeat (first | refine blk_drewN ?_ _ | refine blk_drew ?_ | refine blk_alloc ?_ _)); refine blk_far ?_ NB401_402.out _; (with_reducible repeat (first | refine blk_drewN ?_ _ | refine blk_drew ?_ | refine blk_alloc ?_ _)); refine blk_far ?_ NB401_402.out _; (with_reducible repeat (first | refine blk_drewN ?_ _ | refine blk_drew ?_ | refine blk_alloc ?_ _)); exact BK401.out) hb); replace BK402 := q_ (blk_below (g := gb402) (o := .cells #[.string t403, .string t404, .slice none 0 0] 63 (0, 0)) (by (with_reducible repeat (first | refine blk_drewN ?_ _ | refine blk_drew ?_ | refine blk_alloc ?_ _)); refine blk_put (cs := #[.string t403, .string (⟨#[]⟩ : ByteArray), .slice none 0 0]) ?_ 1 _ rfl; (with_reducible repeat (first | refine blk_drewN ?_ _ | refine blk_drew ?_ | refine blk_alloc ?_ _)); refine blk_put (cs := #[.string (⟨#[]⟩ : ByteArray), .string (⟨#[]⟩ : ByteArray), .slice none 0 0]) ?_ 0 _ rfl; (with_reducible repeat (first | refine blk_drewN ?_ _ | refine blk_drew ?_ | refine blk_alloc ?_ _)); exact BK402.out) hb); replace HB := q_ (below_step (b3_ HB.out GE400.out GE401.out GE402.out) hb); (try clear hb); (try clear ho0); obtain ⟨Ao15, co15, eo15⟩ := Kd.R_slice HO407.out; subst eo15; obtain ⟨hcz16_0, hcz16_1, hcz16_2, hfz16_0, hfz16_1, hfz16_2⟩ := bx3_ BK402.out; obtain ⟨hcz17_0, hcz17_1, hcz17_2, hfz17_0, hfz17_1, hfz17_2⟩ := bx3_ BK401.out))
  refine bodyPost_ret (results_cell_row rfl _ _ gb401 63 #[.string t403, .string t404, .slice Ao15 t405.length co15] (0, 0) _ rfl (by (with_reducible repeat (first | refine blk_drewN ?_ _ | refine blk_drew ?_ | refine blk_alloc ?_ _)); refine blk_put (cs := #[.string t403, .string t404, .slice none 0 0]) ?_ 2 _ rfl; (with_reducible repeat (first | refine blk_drewN ?_ _ | refine blk_drew ?_ | refine blk_alloc ?_ _)); refine blk_put (cs := #[.string t403, .string (⟨#[]⟩ : ByteArray), .slice none 0 0]) ?_ 1 _ rfl; (with_reducible repeat (first | refine blk_drewN ?_ _ | refine blk_drew ?_ | refine blk_alloc ?_ _)); refine blk_put (cs := #[.string (⟨#[]⟩ : ByteArray), .string (⟨#[]⟩ : ByteArray), .slice none 0 0]) ?_ 0 _ rfl; (with_reducible repeat (first | refine blk_drewN ?_ _ | refine blk_drew ?_ | refine blk_alloc ?_ _)); refine blk_far ?_ NB401_402.out _; (with_reducible repeat (first | refine blk_drewN ?_ _ | refine blk_drew ?_ | refine blk_alloc ?_ _)); exact BK401.out) Try.underlying63 rfl (by kernel_rfl)) rfl ?_
  exact ⟨_, rf_, by (with_reducible repeat (first | apply Kd.R_alloc | apply Kd.R_drewN | apply Kd.R_drew)); exact Kd.R_mono (Kd.R_far (p := ⟨gb401, 2, none⟩) (Kd.R_far (p := ⟨gb401, 1, none⟩) (Kd.R_far (p := ⟨gb401, 0, none⟩) (Kd.R_far (p := ⟨gb402, 2, none⟩) (Kd.R_types (Kd.R_types HO407.out BK402.out (by decide)) BK401.out (by decide)) (fun _ hk => hk.1.2) (.slice Ao15 t405.length co15)) (fun _ hk => hk.2) (.string t403)) (fun _ hk => hk.2) (.string t404)) (fun _ hk => hk.2) (.slice Ao15 t405.length co15)) (fun _ hk => trivial), b3_ HB.out GE400.out GE401.out GE402.out⟩

/-! ###  laws_toItemS: function 74 -/
def laws_toItemS.l0 : Nat → List (S131) → List (S63) → Int → Option ((List (S63)))
  | 0, _, _, _ => none
  | k + 1, x0, x3, x4 => if x4 < (x0.length : Int) then (if 0 ≤ x4 then ((laws_toItem.f k ((rd_T131 x0 x4).f0.f0) ((rd_T131 x0 x4).f0.f1) ((rd_T131 x0 x4).f1)).bind fun bt412 => (if x4 < (x3.length : Int) then (laws_toItemS.l0 k x0 (x3.set (x4 : Int).toNat (⟨(⟨bt412.1, bt412.2.1⟩ : S26), bt412.2.2⟩ : S63)) (wrap64 (x4 + 1))) else (none))) else (none)) else (some x3)
def laws_toItemS.f (k : Nat) (l0 : List (S131)) : Option ((List (S63))) := if 0 ≤ (l0.length : Int) then (if ((l0.length : Int) : Int).toNat ≤ 5026338869833 then (laws_toItemS.l0 k l0 (List.replicate ((l0.length : Int) : Int).toNat z63) 0) else (none)) else (none)
set_option maxHeartbeats 8000000 in
set_option maxRecDepth 100000 in
theorem laws_toItemS.calls (k : Nat) (A0 : Option Addr) (c0 : Nat) (l0 : List (S131)) (r : List (S63)) (w : World) (hr0 : Kd.C k131 w A0 l0.length l0) (hc0 : l0.length ≤ c0) (h : laws_toItemS.f k l0 = some r) :
  Calls Try.prog 74 #[.slice A0 l0.length c0] w fun e w' => ∃ v0_ : Value, e = .returned (v0_) ∧ Kd.S k63 63 w' w.heap.size (fun _ => True) v0_ r ∧ Below w.heap.size w w' := by
  have hu131 := Try.underlying131
  have hu63 := Try.underlying63
  have HR0 := Aside0.mk hr0
  have HC0 := Aside0.mk hc0
  clear hr0 hc0
  have HB := q_ (Below.refl w.heap.size w)
  have H : (if 0 ≤ (l0.length : Int) then (if ((l0.length : Int) : Int).toNat ≤ 5026338869833 then (laws_toItemS.l0 k l0 (List.replicate ((l0.length : Int) : Int).toNat z63) 0) else (none)) else (none)) = some r := h
  clear h
  by_cases c2 : 0 ≤ (l0.length : Int)
  rotate_left
  · rw [if_neg c2] at H; exact absurd H (by simp)
  rw [if_pos c2] at H
  have c2b0 := eq_true c2
  have c2b1 : decide (0 ≤ (l0.length : Int)) = true := decide_eq_true c2
  clear c2
  by_cases c3 : ((l0.length : Int) : Int).toNat ≤ 5026338869833
  rotate_left
  · rw [if_neg c3] at H; exact absurd H (by simp)
  rw [if_pos c3] at H
  have c3b0 := eq_true c3
  have c3b1 : decide (((l0.length : Int) : Int).toNat ≤ 5026338869833) = true := decide_eq_true c3
  clear c3
  obtain ⟨y408, hy408⟩ : ∃ y_ : List (S63), y_ = (List.replicate ((l0.length : Int) : Int).toNat z63) := ⟨_, rfl⟩
  replace H : (laws_toItemS.l0 k l0 y408 0) = some r := ry_ hy408 H
  have Ny408 := Aside0.mk hy408
  clear hy408
  have H' := Aside0.mk H
  clear H
  go_enter Try.func74, Try.ntmps74
  go_wp2_with (first | ((with_reducible refine gate_dst (N := 7) rfl ?_); refine Kd.S_make k63 _ 63 rfl (N := 7) rfl 42 _ _ rfl (l0.length : Int) rfl rfl Try.underlying42 (.agg #[(.string ⟨#[]⟩), (.string ⟨#[]⟩), (.slice none 0 0)]) 56 info63 rfl (by decide) (by omega) z63 (ok := fun _ => True) (okp := fun _ => True) (k63_mkM _ _ _ z63 (Kd.R_nil _ _ _ _ _)) (fun _ hk => hk) trivial od_ (Nat.le_trans (Nat.mul_le_mul_right _ (od_ : (l0.length : Int).toNat ≤ 5026338869833)) (by omega)) (Below.refl _ _) (Nat.le_refl _) ?_; intro v409 w4 ho5 hb hg_ hnew_; clear hg_ hnew_; (first | rw [← Ny408.out] at ho5 | (simp only [Int.reduceToNat] at ho5; rw [← Ny408.out] at ho5)); have HO410 := q_ (Kd.S_lower ho5 (below_size (be_ HB.out))); replace HB := q_ (below_step (be_ HB.out) hb); clear hb ho5))
  go_loopg [4] k (fun kq v4 w' => ∃ (x3_1 : List (S63)) (x4_1 : Int), v4 = .int .i64 x4_1 ∧ Aside0 (laws_toItemS.l0 kq l0 x3_1 x4_1 = some r) ∧ Aside0 (kq ≤ k) ∧ Aside0 (Kd.S k63 63 w' w.heap.size (fun _ => True) v409 x3_1) ∧ Aside0 (Below w.heap.size w w'))
  case atStart => exact ⟨(y408), (0), rs_, H', ⟨Nat.le_refl _⟩, ⟨by (with_reducible repeat (first | apply Kd.S_alloc | apply Kd.S_drewN | apply Kd.S_drew)); exact HO410.out⟩, ⟨be_ HB.out⟩⟩
  case round =>
   clear H'
   try clear c2
   try clear c2b0
   try clear c2b1
   try clear p2
   try clear c3
   try clear c3b0
   try clear c3b1
   obtain ⟨x3_1, x4_1, rfl, HA, HK1, HO_3, HB⟩ := hrel
   cases gk with
   | zero => exact absurd HA.out (by simp [laws_toItemS.l0])
   | succ k1 =>
    have H := HA.out
    clear HA
    simp only [laws_toItemS.l0] at H
    by_cases c6 : x4_1 < (l0.length : Int)
    · rw [if_pos c6] at H
      have c6b0 : decide (x4_1 < (l0.length : Int)) = true := decide_eq_true c6
      clear c6
      by_cases c7 : 0 ≤ x4_1
      rotate_left
      · rw [if_neg c7] at H; exact absurd H (by simp)
      rw [if_pos c7] at H
      have c7b0 : decide (0 ≤ x4_1) = true := decide_eq_true c7
      clear c7
      replace H := Option.bind_eq_some_iff.mp H
      obtain ⟨⟨t412, t413, t414⟩, A80, H⟩ := H; try dsimp only at H
      have A8 := Aside0.mk A80
      clear A80
      by_cases c9 : x4_1 < (x3_1.length : Int)
      rotate_left
      · rw [if_neg c9] at H; exact absurd H (by simp)
      rw [if_pos c9] at H
      have c9b0 : decide (x4_1 < (x3_1.length : Int)) = true := decide_eq_true c9
      clear c9
      obtain ⟨y417, hy417⟩ : ∃ y_ : List (S63), y_ = (x3_1.set (x4_1 : Int).toNat (⟨(⟨t412, t413⟩ : S26), t414⟩ : S63)) := ⟨_, rfl⟩
      replace H : (laws_toItemS.l0 k1 l0 y417 (wrap64 (x4_1 + 1))) = some r := ry_ hy417 H
      have Ny417 := Aside0.mk hy417
      clear hy417
      have H' := Aside0.mk H
      clear H
      have p411 : 0 ≤ (x4_1 : Int) := od_
      have q411 : x4_1 < (l0.length : Int) := od_
      obtain ⟨ad411, A411_2, c411_2, e411, hx411_0, hx411_1, hx411_2, hl411_2, hi411_2⟩ := at_T131 HR0.out x4_1 p411 q411
      cases e411
      replace hx411_0 := (HB.out.cell (World.block_lt_of_cell? w _ hx411_0)).trans hx411_0
      replace hx411_1 := (HB.out.cell (World.block_lt_of_cell? w _ hx411_1)).trans hx411_1
      replace hx411_2 := (HB.out.cell (World.block_lt_of_cell? w _ hx411_2)).trans hx411_2
      have HR411_2 := Aside0.mk hi411_2
      have HC411_2 := Aside0.mk hl411_2
      clear hi411_2 hl411_2
      replace p411 := eq_true p411
      replace q411 := eq_true q411
      go_wp2_with (first | ((with_reducible refine gate_callee (f := 113) rfl ?_); refine gl_ (some 20) Try.func113 #[.agg #[.string ((rd_T131 l0 x4_1).f0.f0), .string ((rd_T131 l0 x4_1).f0.f1), .slice A411_2 ((rd_T131 l0 x4_1).f1).length c411_2]] rfl al_ ?_; (with_reducible refine (laws_toItem.calls k1 ((rd_T131 l0 x4_1).f0.f0) ((rd_T131 l0 x4_1).f0.f1) _ _ ((rd_T131 l0 x4_1).f1) t412 t413 t414 _ ?side1 ?side2 A8.out).mono ?_); (case side1 => exact kc_ (Kd.C_below HR411_2.out HB.out)); (case side2 => exact HC411_2.out); rintro e w11 ⟨v415, rfl, ho0, hb⟩; refine ⟨_, rfl, ?_⟩; replace HO_3 := q_ (Kd.S_elder' (ks_ HO_3.out) (Kd.R_base ho0) hb); have HO416 := q_ (Kd.R_lower ho0 (below_size (be_ HB.out))); replace HB := q_ (below_step (be_ HB.out) hb); (try clear hb); (try clear ho0); obtain ⟨Aq_, cq_, eq_⟩ := Kd.R_slice HO416.out; subst eq_; have p10 : 0 ≤ (x4_1 : Int) := od_; have q10 : (x4_1 : Int) < ((x3_1.length : Int) : Int) := od_; obtain ⟨go10, co10, eo10, gb10, gl10, cl10, HG10⟩ := Kd.S_form HO_3.out (by omega); (first | cases eo10 | (injection eo10 with ea_ en_ ec_; (first | subst ea_ | (injection ea_ with ea_; subst ea_)); subst ec_; clear en_)); have GB10 := Aside0.mk gb10; have GG10 := Aside0.mk HG10; clear gb10 gl10 HG10; obtain ⟨_, ce10, hcl10, hM10, hcc10, hfr10, _, _⟩ := Kd.S_elem HO_3.out z63 (x4_1 : Int) p10 q10; obtain ⟨ve10_2, rfl, ge10_2⟩ := k63_openM hM10; have hx10_0 : w11.cell? ⟨go10, (x4_1 : Int).toNat * 3, none⟩ = some (.string ((rd_T63 x3_1 x4_1).f0.f0)) := hcc10 0 _ rfl; have hx10_1 : w11.cell? ⟨go10, (x4_1 : Int).toNat * 3 + 1, none⟩ = some (.string ((rd_T63 x3_1 x4_1).f0.f1)) := hcc10 1 _ rfl; have hx10_2 : w11.cell? ⟨go10, (x4_1 : Int).toNat * 3 + 2, none⟩ = some (ve10_2) := hcc10 2 _ rfl; have hf10_0 : w11.frozen? ⟨go10, (x4_1 : Int).toNat * 3, none⟩ = false := hfr10 0; have hf10_1 : w11.frozen? ⟨go10, (x4_1 : Int).toNat * 3 + 1, none⟩ = false := hfr10 1; have hf10_2 : w11.frozen? ⟨go10, (x4_1 : Int).toNat * 3 + 2, none⟩ = false := hfr10 2; clear hcl10 hcc10 hfr10 hM10; replace p10 := eq_true p10; replace q10 := eq_true q10; have n_ := q_ (Kd.S_mono (ok' := (fun k_ => some k_ ≠ ((.slice Aq_ t414.length cq_) : Value).ownBlock)) HO_3.out (fun k_ hk => hk.2)); clear HO_3; have HO_3 := n_; clear n_; have HX12 := q_ (show Kd.S k63 63 w11 w.heap.size (fun k_ => ((fun _ => True)) k_ ∧ ¬ ((fun k_ => some k_ = ((.slice Aq_ t414.length cq_) : Value).ownBlock)) k_) (.slice (some ⟨go10, 0, none⟩) x3_1.length co10) x3_1 from (by (with_reducible repeat (first | apply Kd.S_alloc | apply Kd.S_drewN | apply Kd.S_drew)); exact Kd.S_mono HO_3.out (fun k_ hk => ⟨trivial, fun e_ => hk e_⟩))); obtain ⟨oki12, ce12, hcl12, hM12, hcc12, hfr12, hoki12, hH12⟩ := Kd.S_elem HX12.out z63 (x4_1 : Int) od_ (by have h_ : (x4_1 : Int) < ((x3_1.length : Int) : Int) := od_; first | exact h_ | (have e_ := (Kd.S_reads' HO_3.out).1; omega) | simpa using h_); obtain ⟨ve12_2, rfl, ge12_2⟩ := k63_openM hM12; have HP12 := Kd.S_seg hH12 od_ (by have h_ : (x4_1 : Int) < ((x3_1.length : Int) : Int) := od_; first | exact h_ | (have e_ := (Kd.S_reads' HO_3.out).1; omega) | simpa using h_) (seg := [.string t412, .string t413, (.slice Aq_ t414.length cq_)]) (j := 0) (show 3 ≤ 3 from by decide) (x' := (⟨(⟨t412, t413⟩ : S26), t414⟩ : S63)) (k63_mkM _ _ _ (⟨(⟨t412, t413⟩ : S26), t414⟩ : S63) (Kd.R_mono (Kd.R_tight rfl (Kd.R_mono (ok' := fun k_ => ((fun _ => True)) k_ ∧ k_ ≠ go10) (Kd.R_apart' (HO416.out) (Kd.S_typed HO_3.out) (by decide)) (fun k_ hk => ⟨trivial, fun e_ => (hk.2) (by rw [e_]; rfl)⟩))) (fun _ h_ => Or.inr (h_)))) (fun _ hk => hk) (fun k_ hk_ => ((Kd.R_mono (ok' := fun k_ => ((fun _ => True)) k_ ∧ k_ ≠ go10) (Kd.R_apart' (HO416.out) (Kd.S_typed HO_3.out) (by decide)) (fun k_ hk => ⟨trivial, fun e_ => (hk.2) (by rw [e_]; rfl)⟩))).1 k_ hk_.symm); have hx12_0 := hcc12 0 _ rfl; (try simp only [show (k63).sz = 3 from rfl, Nat.mul_one, Nat.add_zero] at hx12_0); have hf12_0 := hfr12 0; (try simp only [show (k63).sz = 3 from rfl, Nat.mul_one, Nat.add_zero] at hf12_0); have hx12_1 := hcc12 1 _ rfl; (try simp only [show (k63).sz = 3 from rfl, Nat.mul_one, Nat.add_zero] at hx12_1); have hf12_1 := hfr12 1; (try simp only [show (k63).sz = 3 from rfl, Nat.mul_one, Nat.add_zero] at hf12_1); have hx12_2 := hcc12 2 _ rfl; (try simp only [show (k63).sz = 3 from rfl, Nat.mul_one, Nat.add_zero] at hx12_2); have hf12_2 := hfr12 2; (try simp only [show (k63).sz = 3 from rfl, Nat.mul_one, Nat.add_zero] at hf12_2); clear hcl12 hcc12 hfr12 hM12 hoki12 hH12) | ((with_reducible refine gate_store (t := 63) (p := 21) rfl ?_); refine store_event (t := 63) (p := 21) (v := ?vo_w13) (w1 := (((w11.setCell ⟨go10, (x4_1 : Int).toNat * 3, none⟩ (.string t412)).setCell ⟨go10, (x4_1 : Int).toNat * 3 + 1, none⟩ (.string t413)).setCell ⟨go10, (x4_1 : Int).toNat * 3 + 2, none⟩ ((.slice Aq_ t414.length cq_)))) ?hg ?ho ?hn ?hr ?_; (case ho => rfl); (case hg => rfl); (case hn => rfl); (case hr => first | (go_simp; done) | (go_simp; rfl)); intro w13 hw; have hg : w11.grownBy w13 (some go10) := (by rw [hw]; exact HP12.2); have hp_ : Kd.S k63 63 w13 w.heap.size (fun _ => True) (.slice (some ⟨go10, 0, none⟩) x3_1.length co10) y417 := (by rw [hw, Ny417.out]; exact HP12.1); clear HP12; have n0_ := q_ (hp_); have n1_ := q_ ((by rw [hw]; exact below_set (below_set (below_set (HB.out) GB10.out) GB10.out) GB10.out : Below w.heap.size w w13)); clear HO_3; clear HB; clear HO416; have HO_3 := n0_; have HB := n1_; clear n0_ n1_; clear hg hw hp_))
      go_roundg k1
      case measure => have := HK1.out; omega
      case rel => exact ⟨(y417), (wrap64 (x4_1 + 1)), rs_, H', ⟨by have := HK1.out; omega⟩, ⟨by (with_reducible repeat (first | apply Kd.S_alloc | apply Kd.S_drewN | apply Kd.S_drew)); exact HO_3.out⟩, ⟨be_ HB.out⟩⟩
    · rw [if_neg c6] at H
      have c6b0 : decide (x4_1 < (l0.length : Int)) = false := decide_eq_false c6
      clear c6
      obtain rfl := Option.some.inj H
      go_wp2
      go_ret
      exact ⟨_, rf_, by (with_reducible repeat (first | apply Kd.S_alloc | apply Kd.S_drewN | apply Kd.S_drew)); exact HO_3.out, be_ HB.out⟩

/-! ###  laws_toProof: function 19 -/
def laws_toProof.f (k : Nat) (a0_0 : Int) (a0_1 : Int) (l0_2 : List (S131)) : Option (Int × Int × (List (S63))) := (laws_toItemS.f k l0_2).bind fun t421 => (some (a0_0, a0_1, t421))
set_option maxHeartbeats 8000000 in
set_option maxRecDepth 100000 in
theorem laws_toProof.calls (k : Nat) (a0_0 : Int) (a0_1 : Int) (A0_2 : Option Addr) (c0_2 : Nat) (l0_2 : List (S131)) (r1 : Int) (r2 : Int) (r3 : List (S63)) (w : World) (hr0_2 : Kd.C k131 w A0_2 l0_2.length l0_2) (hc0_2 : l0_2.length ≤ c0_2) (h : laws_toProof.f k a0_0 a0_1 l0_2 = some (r1, r2, r3)) :
  Calls Try.prog 19 #[.agg #[.int .i64 a0_0, .int .i64 a0_1, .slice A0_2 l0_2.length c0_2]] w fun e w' => ∃ v2_ : Value, e = .returned (.agg #[.int .i64 r1, .int .i64 r2, v2_]) ∧ Kd.S k63 63 w' w.heap.size (fun _ => True) v2_ r3 ∧ Below w.heap.size w w' := by
  have hu38 := Try.underlying38
  have hu44 := Try.underlying44
  have HR0_2 := Aside0.mk hr0_2
  have HC0_2 := Aside0.mk hc0_2
  clear hr0_2 hc0_2
  have HB := q_ (Below.refl w.heap.size w)
  have H : ((laws_toItemS.f k l0_2).bind fun t421 => (some (a0_0, a0_1, t421))) = some (r1, r2, r3) := h
  clear h
  replace H := Option.bind_eq_some_iff.mp H
  obtain ⟨t421, A20, H⟩ := H
  have A2 := Aside0.mk A20
  clear A20
  simp only [Option.some.injEq, Prod.mk.injEq] at H
  obtain ⟨rfl, rfl, rfl⟩ := H
  go_enter Try.func19, Try.ntmps19
  go_wp2_with (first | ((with_reducible refine gate_dst (N := 1) rfl ?_); refine box_event rfl (N := 1) rfl (cs := #[.int .i64 a0_0, .int .i64 a0_1, .slice A0_2 l0_2.length c0_2]) (t := 38) hr_ ?_; intro gb418 hg w3 hbox hb; have BK418 := q_ (hbox); have GW418 := q_ ((by rw [hg]; exact (below_size (be_ HB.out)) : w.heap.size ≤ gb418)); have GE418 := q_ ((by rw [hg]; exact (below_size (be_ HB.out)) : w.heap.size ≤ gb418)); replace HB := q_ (below_step (be_ HB.out) hb); clear hb hbox hg) | ((with_reducible refine gate_dst (N := 2) rfl ?_); refine box_event rfl (N := 2) rfl (cs := #[.int .i64 0, .int .i64 0, .slice none 0 0]) (t := 44) hr_ ?_; intro gb419 hg w4 hbox hb; have BK419 := q_ (hbox); have GW419 := q_ ((by rw [hg]; exact (below_size (bs_ HB.out GE418.out)) : w.heap.size ≤ gb419)); have GE419 := q_ ((by rw [hg]; exact (below_size (bs_ HB.out GE418.out)) : w.heap.size ≤ gb419)); replace HB := q_ (below_step (bs_ HB.out GE418.out) hb); have NB418_419 := q_ ((by rw [hg]; exact Nat.ne_of_lt (blk_lt (g := gb418) (o := .cells #[.int .i64 a0_0, .int .i64 a0_1, .slice A0_2 l0_2.length c0_2] 38 (0, 0)) (bk_ BK418.out)) : gb418 ≠ gb419)); have NB419_418 := q_ ((by rw [hg]; exact Nat.ne_of_gt (blk_lt (g := gb418) (o := .cells #[.int .i64 a0_0, .int .i64 a0_1, .slice A0_2 l0_2.length c0_2] 38 (0, 0)) (bk_ BK418.out)) : gb419 ≠ gb418)); replace BK418 := q_ (bb_ BK418.out hb); clear hb hbox hg) | ((with_reducible refine gate_dst (N := 3) rfl ?_); refine box_event rfl (N := 3) rfl (cs := #[.int .i64 0, .int .i64 0, .slice none 0 0]) (t := 44) hr_ ?_; intro gb420 hg w5 hbox hb; have BK420 := q_ (hbox); have GW420 := q_ ((by rw [hg]; exact (below_size (b2_ HB.out GE418.out GE419.out)) : w.heap.size ≤ gb420)); have GE420 := q_ ((by rw [hg]; exact (below_size (b2_ HB.out GE418.out GE419.out)) : w.heap.size ≤ gb420)); replace HB := q_ (below_step (b2_ HB.out GE418.out GE419.out) hb); have NB418_420 := q_ ((by rw [hg]; exact Nat.ne_of_lt (blk_lt (g := gb418) (o := .cells #[.int .i64 a0_0, .int .i64 a0_1, .slice A0_2 l0_2.length c0_2] 38 (0, 0)) (bk_ BK418.out)) : gb418 ≠ gb420)); have NB420_418 := q_ ((by rw [hg]; exact Nat.ne_of_gt (blk_lt (g := gb418) (o := .cells #[.int .i64 a0_0, .int .i64 a0_1, .slice A0_2 l0_2.length c0_2] 38 (0, 0)) (bk_ BK418.out)) : gb420 ≠ gb418)); replace BK418 := q_ (bb_ BK418.out hb); have NB419_420 := q_ ((by rw [hg]; exact Nat.ne_of_lt (blk_lt (g := gb419) (o := .cells #[.int .i64 0, .int .i64 0, .slice none 0 0] 44 (0, 0)) (bk_ BK419.out)) : gb419 ≠ gb420)); have NB420_419 := q_ ((by rw [hg]; exact Nat.ne_of_gt (blk_lt (g := gb419) (o := .cells #[.int .i64 0, .int .i64 0, .slice none 0 0] 44 (0, 0)) (bk_ BK419.out)) : gb420 ≠ gb419)); replace BK419 := q_ (bb_ BK419.out hb); clear hb hbox hg; have hnb6 := NB418_419.out; have hnc6 := NB419_418.out; have hnb7 := NB418_420.out; have hnc7 := NB420_418.out; obtain ⟨hcz8_0, hcz8_1, hcz8_2, hfz8_0, hfz8_1, hfz8_2⟩ := bx3_ BK418.out; have hnb9 := NB420_419.out; have hnc9 := NB419_420.out; obtain ⟨hcz10_0, hcz10_1, hcz10_2, hfz10_0, hfz10_1, hfz10_2⟩ := bx3_ BK420.out) | ((with_reducible refine gate_callee (f := 74) rfl ?_); refine gl_ (some 12) Try.func74 #[.slice A0_2 l0_2.length c0_2] rfl al_ ?_; (with_reducible refine (laws_toItemS.calls k _ _ l0_2 t421 _ ?side1 ?side2 A2.out).mono ?_); (case side1 => exact Kd.C_below HR0_2.out (b3_ HB.out GE418.out GE419.out GE420.out)); (case side2 => exact HC0_2.out); rintro e w11 ⟨v422, rfl, ho0, hb⟩; refine ⟨_, rfl, ?_⟩; have HO423 := q_ (Kd.S_lower ho0 (below_size (b3_ HB.out GE418.out GE419.out GE420.out))); replace BK418 := q_ (blk_below (g := gb418) (o := .cells #[.int .i64 a0_0, .int .i64 a0_1, .slice A0_2 l0_2.length c0_2] 38 (0, 0)) (by (with_reducible repeat (first | refine blk_drewN ?_ _ | refine blk_drew ?_ | refine blk_alloc ?_ _)); refine blk_far ?_ NB418_420.out _; (with_reducible repeat (first | refine blk_drewN ?_ _ | refine blk_drew ?_ | refine blk_alloc ?_ _)); refine blk_far ?_ NB418_420.out _; (with_reducible repeat (first | refine blk_drewN ?_ _ | refine blk_drew ?_ | refine blk_alloc ?_ _)); exact BK418.out) hb); replace BK419 := q_ (blk_below (g := gb419) (o := .cells #[.int .i64 0, .int .i64 0, .slice none 0 0] 44 (0, 0)) (by (with_reducible repeat (first | refine blk_drewN ?_ _ | refine blk_drew ?_ | refine blk_alloc ?_ _)); refine blk_far ?_ NB419_420.out _; (with_reducible repeat (first | refine blk_drewN ?_ _ | refine blk_drew ?_ | refine blk_alloc ?_ _)); refine blk_far ?_ NB419_420.out _; (with_reducible repeat (first | refine blk_drewN ?_ _ | refine blk_drew ?_ | refine blk_alloc ?_ _)); exact BK419.out) hb); replace BK420 := q_ (blk_below (g := gb420) (o := .cells #[.int .i64 a0_0, .int .i64 a0_1, .slice none 0 0] 44 (0, 0)) (by (with_reducible repeat (first | refine blk_drewN ?_ _ | refine blk_drew ?_ | refine blk_alloc ?_ _)); refine blk_put (cs := #[.int .i64 a0_0, .int .i64 0, .slice none 0 0]) ?_ 1 _ rfl; (with_reducible repeat (first | refine blk_drewN ?_ _ | refine blk_drew ?_ | refine blk_alloc ?_ _)); refine blk_put (cs := #[.int .i64 0, .int .i64 0, .slice none 0 0]) ?_ 0 _ rfl; (with_reducible repeat (first | refine blk_drewN ?_ _ | refine blk_drew ?_ | refine blk_alloc ?_ _)); exact BK420.out) hb); replace HB := q_ (below_step (b3_ HB.out GE418.out GE419.out GE420.out) hb); (try clear hb); (try clear ho0); obtain ⟨Ao12, co12, eo12⟩ := Kd.S_slice HO423.out; subst eo12; obtain ⟨hcz13_0, hcz13_1, hcz13_2, hfz13_0, hfz13_1, hfz13_2⟩ := bx3_ BK420.out; obtain ⟨hcz14_0, hcz14_1, hcz14_2, hfz14_0, hfz14_1, hfz14_2⟩ := bx3_ BK419.out))
  refine bodyPost_ret (results_cell_row rfl _ _ gb419 44 #[.int .i64 a0_0, .int .i64 a0_1, .slice Ao12 t421.length co12] (0, 0) _ rfl (by (with_reducible repeat (first | refine blk_drewN ?_ _ | refine blk_drew ?_ | refine blk_alloc ?_ _)); refine blk_put (cs := #[.int .i64 a0_0, .int .i64 a0_1, .slice none 0 0]) ?_ 2 _ rfl; (with_reducible repeat (first | refine blk_drewN ?_ _ | refine blk_drew ?_ | refine blk_alloc ?_ _)); refine blk_put (cs := #[.int .i64 a0_0, .int .i64 0, .slice none 0 0]) ?_ 1 _ rfl; (with_reducible repeat (first | refine blk_drewN ?_ _ | refine blk_drew ?_ | refine blk_alloc ?_ _)); refine blk_put (cs := #[.int .i64 0, .int .i64 0, .slice none 0 0]) ?_ 0 _ rfl; (with_reducible repeat (first | refine blk_drewN ?_ _ | refine blk_drew ?_ | refine blk_alloc ?_ _)); refine blk_far ?_ NB419_420.out _; (with_reducible repeat (first | refine blk_drewN ?_ _ | refine blk_drew ?_ | refine blk_alloc ?_ _)); exact BK419.out) Try.underlying44 rfl (by kernel_rfl)) rfl ?_
  exact ⟨_, rf_, by (with_reducible repeat (first | apply Kd.S_alloc | apply Kd.S_drewN | apply Kd.S_drew)); exact Kd.S_mono (Kd.S_far (p := ⟨gb419, 2, none⟩) (Kd.S_far (p := ⟨gb419, 1, none⟩) (Kd.S_far (p := ⟨gb419, 0, none⟩) (Kd.S_far (p := ⟨gb420, 2, none⟩) (Kd.S_types (Kd.S_types HO423.out BK420.out (by decide)) BK419.out (by decide)) (fun _ hk => hk.1.2) (.slice Ao12 t421.length co12)) (fun _ hk => hk.2) (.int .i64 a0_0)) (fun _ hk => hk.2) (.int .i64 a0_1)) (fun _ hk => hk.2) (.slice Ao12 t421.length co12)) (fun _ hk => trivial), b3_ HB.out GE418.out GE419.out GE420.out⟩

/-! ###  impl_isBetween: function 84 -/
def impl_isBetween.f (a0 : ByteArray) (a1 : ByteArray) (a2 : ByteArray) : Option (Bool) := if ((Op.bytesLess a0.toList a1.toList) = true) then (some false) else (if a2.toList = ([] : List UInt8) then (some true) else (some (Op.bytesLess a0.toList a2.toList)))
set_option maxHeartbeats 8000000 in
set_option maxRecDepth 100000 in
theorem impl_isBetween.calls (a0 : ByteArray) (a1 : ByteArray) (a2 : ByteArray) (r : Bool) (w : World) (h : impl_isBetween.f a0 a1 a2 = some r) :
  Calls Try.prog 84 #[.string a0, .string a1, .string a2] w fun e w' => e = .returned (.bool r) ∧ Drawn0 w w' := by
  have H : (if ((Op.bytesLess a0.toList a1.toList) = true) then (some false) else (if a2.toList = ([] : List UInt8) then (some true) else (some (Op.bytesLess a0.toList a2.toList)))) = some r := h
  clear h
  by_cases c4 : ((Op.bytesLess a0.toList a1.toList) = true)
  · rw [if_pos c4] at H
    have c4b0 : (Op.bytesLess a0.toList a1.toList) = true := c4
    clear c4
    obtain rfl := Option.some.inj H
    go_enter Try.func84, Try.ntmps84
    go_wp2
    go_ret
    exact ⟨rs_, by repeat (first | exact Drawn0.refl _ | apply Drawn0.step)⟩
  · rw [if_neg c4] at H
    have c4b0 : (Op.bytesLess a0.toList a1.toList) = false := by simpa using c4
    clear c4
    by_cases c5 : a2.toList = ([] : List UInt8)
    · rw [if_pos c5] at H
      have c5b0 : (a2.toList == ([] : List UInt8)) = true := beq_iff_eq.mpr c5
      have c5b1 : (a2.toList != ([] : List UInt8)) = false := bne_eq_false_iff_eq.mpr c5
      clear c5
      obtain rfl := Option.some.inj H
      go_enter Try.func84, Try.ntmps84
      go_wp2
      go_ret
      exact ⟨rs_, by repeat (first | exact Drawn0.refl _ | apply Drawn0.step)⟩
    · rw [if_neg c5] at H
      have c5b0 : (a2.toList == ([] : List UInt8)) = false := beq_eq_false_iff_ne.mpr c5
      have c5b1 : (a2.toList != ([] : List UInt8)) = true := bne_iff_ne.mpr c5
      obtain rfl := Option.some.inj H
      go_enter Try.func84, Try.ntmps84
      go_wp2
      go_ret
      exact ⟨rs_, by repeat (first | exact Drawn0.refl _ | apply Drawn0.step)⟩

/-! ###  impl_Between: function 27 -/
def impl_Between.l0 : Nat → ByteArray → ByteArray → List (S26) → List (S26) → Int → Int → Option ((List (S26)))
  | 0, _, _, _, _, _, _ => none
  | k + 1, x1, x2, x7, x10, x11, x12 => if x12 < x11 then (if 0 ≤ x12 then (if x12 < (x10.length : Int) then ((impl_isBetween.f ((rd_T26 x10 x12).f0) x1 x2).bind fun t426 => (if t426 = true then (if x7.length < 4398046511104 then (impl_Between.l0 k x1 x2 (x7 ++ [(⟨(rd_T26 x10 x12).f0, (rd_T26 x10 x12).f1⟩ : S26)]) x10 x11 (wrap64 (x12 + 1))) else (none)) else (impl_Between.l0 k x1 x2 x7 x10 x11 (wrap64 (x12 + 1))))) else (none)) else (none)) else (some x7)
def impl_Between.f (k : Nat) (l0 : List (S26)) (a1 : ByteArray) (a2 : ByteArray) : Option ((List (S26))) := impl_Between.l0 k a1 a2 ([] : List (S26)) l0 (l0.length : Int) 0
set_option maxHeartbeats 8000000 in
set_option maxRecDepth 100000 in
theorem impl_Between.calls (k : Nat) (A0 : Option Addr) (c0 : Nat) (l0 : List (S26)) (a1 : ByteArray) (a2 : ByteArray) (r : List (S26)) (w : World) (hr0 : Kd.C k26 w A0 l0.length l0) (hc0 : l0.length ≤ c0) (h : impl_Between.f k l0 a1 a2 = some r) :
  Calls Try.prog 27 #[.slice A0 l0.length c0, .string a1, .string a2] w fun e w' => ∃ v0_ : Value, e = .returned (v0_) ∧ Kd.R k26 26 w' w.heap.size (fun _ => True) v0_ r ∧ Below w.heap.size w w' := by
  have hu26 := Try.underlying26
  have HR0 := Aside0.mk hr0
  have HC0 := Aside0.mk hc0
  clear hr0 hc0
  have HB := q_ (Below.refl w.heap.size w)
  have H : (impl_Between.l0 k a1 a2 ([] : List (S26)) l0 (l0.length : Int) 0) = some r := h
  clear h
  have H' := Aside0.mk H
  clear H
  go_enter Try.func27, Try.ntmps27
  go_wp2
  go_loopg [7, 12] k (fun kq v7 v12 w' => ∃ (x7_1 : List (S26)) (x12_1 : Int), v12 = .int .i64 x12_1 ∧ Aside0 (impl_Between.l0 kq a1 a2 x7_1 l0 (l0.length : Int) x12_1 = some r) ∧ Aside0 (kq ≤ k) ∧ Aside0 (Kd.R k26 26 w' w.heap.size (fun _ => True) v7 x7_1) ∧ Aside0 (Below w.heap.size w w'))
  case atStart => exact ⟨(([] : List (S26))), (0), rs_, H', ⟨Nat.le_refl _⟩, ⟨by first | exact Kd.R_nil _ _ _ _ _ | exact Kd.N_nil _ _ _ _ _ | exact Kd.V_nil _ _ _ _ _ | exact Kd.Q_nil _ _ _ _ _ | exact Kd.S_nil _ _ _ _ _⟩, ⟨be_ HB.out⟩⟩
  case round =>
   clear H'
   try clear c2
   try clear p2
   obtain ⟨x7_1, x12_1, rfl, HA, HK1, HO_7, HB⟩ := hrel
   cases gk with
   | zero => exact absurd HA.out (by simp [impl_Between.l0])
   | succ k1 =>
    have H := HA.out
    clear HA
    simp only [impl_Between.l0] at H
    by_cases c4 : x12_1 < (l0.length : Int)
    · rw [if_pos c4] at H
      have c4b0 : decide (x12_1 < (l0.length : Int)) = true := decide_eq_true c4
      clear c4
      by_cases c5 : 0 ≤ x12_1
      rotate_left
      · rw [if_neg c5] at H; exact absurd H (by simp)
      rw [if_pos c5] at H
      have c5b0 : decide (0 ≤ x12_1) = true := decide_eq_true c5
      clear c5
      by_cases c6 : x12_1 < (l0.length : Int)
      rotate_left
      · rw [if_neg c6] at H; exact absurd H (by simp)
      rw [if_pos c6] at H
      have c6b0 : decide (x12_1 < (l0.length : Int)) = true := decide_eq_true c6
      clear c6
      replace H := Option.bind_eq_some_iff.mp H
      obtain ⟨t426, A70, H⟩ := H
      have A7 := Aside0.mk A70
      clear A70
      by_cases c8 : t426 = true
      rotate_left
      · replace c8 := Bool.eq_false_iff.mpr c8
        subst c8
        rw [if_neg (show ¬ (false = true) by decide)] at H
        have H' := Aside0.mk H
        clear H
        have p424 : 0 ≤ (x12_1 : Int) := od_
        have q424 : x12_1 < (l0.length : Int) := od_
        obtain ⟨ad424, e424, hx424_0, hx424_1⟩ := at_T26 HR0.out x12_1 p424 q424
        cases e424
        replace hx424_0 := (HB.out.cell (World.block_lt_of_cell? w _ hx424_0)).trans hx424_0
        replace hx424_1 := (HB.out.cell (World.block_lt_of_cell? w _ hx424_1)).trans hx424_1
        replace p424 := eq_true p424
        replace q424 := eq_true q424
        go_wp2_with (first | ((with_reducible refine gate_dst (N := 9) rfl ?_); refine box_event rfl (N := 9) rfl (cs := #[.string (⟨#[]⟩ : ByteArray), .string (⟨#[]⟩ : ByteArray)]) (t := 26) hr_ ?_; intro gb425 hg w13 hbox hb; replace HO_7 := q_ (Kd.R_below (Kd.R_elderB (kr_ HO_7.out) gb425 (Nat.le_of_eq hg.symm)) hb); have BK425 := q_ (hbox); have GW425 := q_ ((by rw [hg]; exact (below_size (be_ HB.out)) : w.heap.size ≤ gb425)); have GE425 := q_ ((by rw [hg]; exact (below_size (be_ HB.out)) : w.heap.size ≤ gb425)); replace HB := q_ (below_step (be_ HB.out) hb); clear hb hbox hg; obtain ⟨hcz14_0, hcz14_1, hfz14_0, hfz14_1⟩ := bx2_ BK425.out) | ((with_reducible refine gate_callee (f := 84) rfl ?_); refine gl_ (some 20) Try.func84 #[.string ((rd_T26 l0 x12_1).f0), .string a1, .string a2] rfl al_ ?_; (with_reducible refine (impl_isBetween.calls ((rd_T26 l0 x12_1).f0) a1 a2 false _ A7.out).mono ?_); rintro e w' ⟨rfl, ⟨nd, rfl⟩⟩; refine ⟨_, rfl, ?_⟩))
        go_roundg k1
        case measure => have := HK1.out; omega
        case rel => exact ⟨(x7_1), (wrap64 (x12_1 + 1)), rs_, H', ⟨by have := HK1.out; omega⟩, ⟨by (with_reducible repeat (first | apply Kd.R_alloc | apply Kd.R_drewN | apply Kd.R_drew)); exact Kd.R_mono (Kd.R_far (p := ⟨gb425, 1, none⟩) (Kd.R_far (p := ⟨gb425, 0, none⟩) (Kd.R_mono HO_7.out (fun k_ hk => (⟨hk, hk.2⟩ : _ ∧ k_ ≠ gb425))) (fun _ hk => hk.2) (.string ((rd_T26 l0 x12_1).f0))) (fun _ hk => hk.2) (.string ((rd_T26 l0 x12_1).f1))) (fun _ hk => trivial)⟩, ⟨bs_ HB.out GE425.out⟩⟩
      subst c8
      rw [if_pos rfl] at H
      by_cases c9 : x7_1.length < 4398046511104
      rotate_left
      · rw [if_neg c9] at H; exact absurd H (by simp)
      rw [if_pos c9] at H
      have LMc9 := Aside0.mk c9
      clear c9
      obtain ⟨y427, hy427⟩ : ∃ y_ : List (S26), y_ = (x7_1 ++ [(⟨(rd_T26 l0 x12_1).f0, (rd_T26 l0 x12_1).f1⟩ : S26)]) := ⟨_, rfl⟩
      replace H : (impl_Between.l0 k1 a1 a2 y427 l0 (l0.length : Int) (wrap64 (x12_1 + 1))) = some r := ry_ hy427 H
      have Ny427 := Aside0.mk hy427
      clear hy427
      have H' := Aside0.mk H
      clear H
      have p424 : 0 ≤ (x12_1 : Int) := od_
      have q424 : x12_1 < (l0.length : Int) := od_
      obtain ⟨ad424, e424, hx424_0, hx424_1⟩ := at_T26 HR0.out x12_1 p424 q424
      cases e424
      replace hx424_0 := (HB.out.cell (World.block_lt_of_cell? w _ hx424_0)).trans hx424_0
      replace hx424_1 := (HB.out.cell (World.block_lt_of_cell? w _ hx424_1)).trans hx424_1
      replace p424 := eq_true p424
      replace q424 := eq_true q424
      go_wp2_with (first | ((with_reducible refine gate_dst (N := 9) rfl ?_); refine box_event rfl (N := 9) rfl (cs := #[.string (⟨#[]⟩ : ByteArray), .string (⟨#[]⟩ : ByteArray)]) (t := 26) hr_ ?_; intro gb425 hg w10 hbox hb; replace HO_7 := q_ (Kd.R_below (Kd.R_elderB (kr_ HO_7.out) gb425 (Nat.le_of_eq hg.symm)) hb); have BK425 := q_ (hbox); have GW425 := q_ ((by rw [hg]; exact (below_size (be_ HB.out)) : w.heap.size ≤ gb425)); have GE425 := q_ ((by rw [hg]; exact (below_size (be_ HB.out)) : w.heap.size ≤ gb425)); replace HB := q_ (below_step (be_ HB.out) hb); clear hb hbox hg; obtain ⟨hcz11_0, hcz11_1, hfz11_0, hfz11_1⟩ := bx2_ BK425.out) | ((with_reducible refine gate_callee (f := 84) rfl ?_); refine gl_ (some 20) Try.func84 #[.string ((rd_T26 l0 x12_1).f0), .string a1, .string a2] rfl al_ ?_; (with_reducible refine (impl_isBetween.calls ((rd_T26 l0 x12_1).f0) a1 a2 true _ A7.out).mono ?_); rintro e w' ⟨rfl, ⟨nd, rfl⟩⟩; refine ⟨_, rfl, ?_⟩) | ((with_reducible refine gate_builtin (b := .append) (xs := #[.tmp 21, .tmp 23]) rfl ?_); at_builtin; refine Kd.R_append k26 (w0 := w) w.heap.size rfl (.tmp 21) (.tmp 23) 24 26 (.agg #[(.string ⟨#[]⟩), (.string ⟨#[]⟩)]) 32 rfl Try.underlying24 info26 rfl (by decide) (by omega) u7 x7_1 (⟨(rd_T26 l0 x12_1).f0, (rd_T26 l0 x12_1).f1⟩ : S26) [.string ((rd_T26 l0 x12_1).f0), .string ((rd_T26 l0 x12_1).f1)] (fun k_ => k_ ≠ gb425) (fun _ => False) rfl (by first | (go_simp; done) | (go_simp; rfl)) ?aP (fun _ hk => hk.elim) ?aF ?aO ?aB ?aS ?aL ?_; (case aP => exact k26_mkM _ _ _ (⟨(rd_T26 l0 x12_1).f0, (rd_T26 l0 x12_1).f1⟩ : S26)); (case aB => exact (bs_ HB.out GE425.out)); (case aF => exact (fun k_ hk => Kd.freshB (g := gb425) (o := .cells #[.string ((rd_T26 l0 x12_1).f0), .string ((rd_T26 l0 x12_1).f1)] 26 (0, 0)) (by (with_reducible repeat (first | refine blk_drewN ?_ _ | refine blk_drew ?_ | refine blk_alloc ?_ _)); refine blk_put (cs := #[.string ((rd_T26 l0 x12_1).f0), .string (⟨#[]⟩ : ByteArray)]) ?_ 1 _ rfl; (with_reducible repeat (first | refine blk_drewN ?_ _ | refine blk_drew ?_ | refine blk_alloc ?_ _)); refine blk_put (cs := #[.string (⟨#[]⟩ : ByteArray), .string (⟨#[]⟩ : ByteArray)]) ?_ 0 _ rfl; (with_reducible repeat (first | refine blk_drewN ?_ _ | refine blk_drew ?_ | refine blk_alloc ?_ _)); exact BK425.out) k_ hk)); (case aO => exact (by (with_reducible repeat (first | apply Kd.R_alloc | apply Kd.R_drewN | apply Kd.R_drew)); exact Kd.R_mono (Kd.R_far (p := ⟨gb425, 1, none⟩) (Kd.R_far (p := ⟨gb425, 0, none⟩) (Kd.R_mono HO_7.out (fun k_ hk => (⟨hk, hk.2⟩ : _ ∧ k_ ≠ gb425))) (fun _ hk => hk.2) (.string ((rd_T26 l0 x12_1).f0))) (fun _ hk => hk.2) (.string ((rd_T26 l0 x12_1).f1))) (fun _ hk => hk.1.2))); (case aS => exact (below_size (bs_ HB.out GE425.out))); (case aL => have := LMc9.out; omega); intro v428 w12 ho hb hg hat; rw [← Ny427.out] at ho; have n0_ := q_ (blk_grown (g := gb425) (o := .cells #[.string ((rd_T26 l0 x12_1).f0), .string ((rd_T26 l0 x12_1).f1)] 26 (0, 0)) (by (with_reducible repeat (first | refine blk_drewN ?_ _ | refine blk_drew ?_ | refine blk_alloc ?_ _)); refine blk_put (cs := #[.string ((rd_T26 l0 x12_1).f0), .string (⟨#[]⟩ : ByteArray)]) ?_ 1 _ rfl; (with_reducible repeat (first | refine blk_drewN ?_ _ | refine blk_drew ?_ | refine blk_alloc ?_ _)); refine blk_put (cs := #[.string (⟨#[]⟩ : ByteArray), .string (⟨#[]⟩ : ByteArray)]) ?_ 0 _ rfl; (with_reducible repeat (first | refine blk_drewN ?_ _ | refine blk_drew ?_ | refine blk_alloc ?_ _)); exact BK425.out) hg (Kd.R_away HO_7.out (fun _ hk => hk.2))); have n1_ := q_ (hb); have n2_ := q_ (ho); clear BK425; clear HB; clear HO_7; have BK425 := n0_; have HB := n1_; have HO429 := n2_; clear n0_ n1_ n2_; clear ho hb hg hat))
      go_roundg k1
      case measure => have := HK1.out; omega
      case rel => exact ⟨(y427), (wrap64 (x12_1 + 1)), rs_, H', ⟨by have := HK1.out; omega⟩, ⟨by (with_reducible repeat (first | apply Kd.R_alloc | apply Kd.R_drewN | apply Kd.R_drew)); exact Kd.R_mono HO429.out (fun _ hk => trivial)⟩, ⟨bs_ HB.out GE425.out⟩⟩
    · rw [if_neg c4] at H
      have c4b0 : decide (x12_1 < (l0.length : Int)) = false := decide_eq_false c4
      clear c4
      obtain rfl := Option.some.inj H
      go_wp2
      go_ret
      exact ⟨_, rf_, by (with_reducible repeat (first | apply Kd.R_alloc | apply Kd.R_drewN | apply Kd.R_drew)); exact HO_7.out, be_ HB.out⟩

/-! ###  impl_inRange: function 66 -/
def impl_inRange.f (a0 : Int) (a1 : Int) (a2 : Int) : Option (Bool) := if a0 ≥ a1 then (some (decide (a0 ≤ a2))) else (some false)
set_option maxHeartbeats 8000000 in
set_option maxRecDepth 100000 in
theorem impl_inRange.calls (a0 : Int) (a1 : Int) (a2 : Int) (r : Bool) (w : World) (h : impl_inRange.f a0 a1 a2 = some r) :
  Calls Try.prog 66 #[.int .i64 a0, .int .i64 a1, .int .i64 a2] w fun e w' => e = .returned (.bool r) ∧ Drawn0 w w' := by
  have H : (if a0 ≥ a1 then (some (decide (a0 ≤ a2))) else (some false)) = some r := h
  clear h
  by_cases c4 : a0 ≥ a1
  · rw [if_pos c4] at H
    have c4b0 : decide (a1 ≤ a0) = true := decide_eq_true c4
    clear c4
    obtain rfl := Option.some.inj H
    go_enter Try.func66, Try.ntmps66
    go_wp2
    go_ret
    exact ⟨rs_, by repeat (first | exact Drawn0.refl _ | apply Drawn0.step)⟩
  · rw [if_neg c4] at H
    have c4b0 : decide (a1 ≤ a0) = false := decide_eq_false c4
    clear c4
    obtain rfl := Option.some.inj H
    go_enter Try.func66, Try.ntmps66
    go_wp2
    go_ret
    exact ⟨rs_, by repeat (first | exact Drawn0.refl _ | apply Drawn0.step)⟩

end Go.Proofs.Ytgaalomhipfgjaa.P
