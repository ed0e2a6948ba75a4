-- Written by wip/xp/xp.py over the kit's print; Lean checks it.
import Derived.Test.YtgaalomhipfgjaaStr
import Derived.Test.YtgaalomhipfgjaaPx0
import Derived.Test.YtgaalomhipfgjaaPx7
namespace Go.Proofs.Ytgaalomhipfgjaa.P
open Go.RowKit Go.Proofs.YtgaalomhipfgjaaW.PrintWords Go.Proofs.YtgaalomhipfgjaaW.PrintLast Go.Proofs.YtgaalomhipfgjaaW.PrintMore
attribute [local go_sem] max2_int min2_int max_two min_two max_three min_three max_four min_four   -- for this text's walks alone
set_option linter.unusedVariables false
set_option linter.unusedSimpArgs false

/-! ###  spec_l4Path: function 50 -/
def spec_l4Path.f : Nat → List (S26) → Int → Option (List ByteArray)
  | 0, _, _ => none
  | k + 1, l0, a1 => if (l0.length : Int) < 2 then (some (([] : List ByteArray))) else ((spec_l4Half.f k (l0.length : Int)).bind fun t739 => (if a1 < t739 then (if 0 ≤ t739 then (if t739 ≤ (l0.length : Int) then ((spec_l4Path.f k (l0.take (t739 : Int).toNat) a1).bind fun t744 => ((spec_l4Inner.f k (l0.drop (t739 : Int).toNat)).bind fun t751 => (if t744.length < 8796093022208 then (some (t744 ++ [t751])) else (none)))) else (none)) else (none)) else (if 0 ≤ t739 then (if t739 ≤ (l0.length : Int) then ((spec_l4Path.f k (l0.drop (t739 : Int).toNat) (wrap64 (a1 - t739))).bind fun t759 => ((spec_l4Inner.f k (l0.take (t739 : Int).toNat)).bind fun t766 => (if t759.length < 8796093022208 then (some (t759 ++ [t766])) else (none)))) else (none)) else (none))))
def spec_l4Path.T5 : Bool × List (List Nat × List Nat) := (true, [([], []), ([], []), ([0, 1], [0, 1]), ([], []), ([2, 3], [2, 3]), ([], []), ([], []), ([5, 6], [5, 6]), ([7, 4], [7]), ([8], [8]), ([4, 9, 8], [4, 9]), ([10, 10, 0, 1, 2, 3, 4, 5, 6, 7, 8, 9, 10], [10])])
def spec_l4Path.B5 : List Nat := [0, 0, 3, 0, 15, 0, 0, 96, 255, 511, 1023, 2047]
theorem spec_l4Path.tab5 : rtab .any (opsOf Try.f50 5) = spec_l4Path.T5 := by kernel_rfl
theorem spec_l4Path.bits5 : waitsOk spec_l4Path.T5.2 spec_l4Path.B5 = true := by kernel_rfl
def spec_l4Path.T6 : Bool × List (List Nat × List Nat) := (true, [([], []), ([], []), ([0, 1], [0, 1]), ([], []), ([], []), ([3, 4], [3, 4]), ([2, 5], [2, 5]), ([], []), ([], []), ([7, 8], [7, 8]), ([9, 6], [9]), ([10], [10]), ([6, 11, 10], [6, 11]), ([12, 12, 0, 1, 2, 3, 4, 5, 6, 7, 8, 9, 10, 11, 12], [12])])
def spec_l4Path.B6 : List Nat := [0, 0, 3, 0, 0, 24, 63, 0, 0, 384, 1023, 2047, 4095, 8191]
theorem spec_l4Path.tab6 : rtab .any (opsOf Try.f50 6) = spec_l4Path.T6 := by kernel_rfl
theorem spec_l4Path.bits6 : waitsOk spec_l4Path.T6.2 spec_l4Path.B6 = true := by kernel_rfl
set_option maxHeartbeats 8000000 in
set_option maxRecDepth 100000 in
theorem spec_l4Path.calls (k : Nat) : ∀ (A0 : Option Addr) (c0 : Nat) (l0 : List (S26)) (a1 : Int) (r : List ByteArray) (w : World) (hr0 : Kd.C k26 w A0 l0.length l0) (hc0 : l0.length ≤ c0) (h : spec_l4Path.f k l0 a1 = some r),
  Calls Try.prog 50 #[.slice A0 l0.length c0, .int .i64 a1] w fun e w' => ∃ v0_ : Value, e = .returned (v0_) ∧ Kd.R Kd.string 9 w' w.heap.size (fun _ => True) v0_ r ∧ Below w.heap.size w w' := by
  induction k using Nat.strongRecOn with
  | _ k ih =>
  intro A0 c0 l0 a1 r w hr0 hc0 h
  cases k with
  | zero => exact absurd h (by simp [spec_l4Path.f])
  | succ k =>
  simp only [spec_l4Path.f] at h
  have HR0 := Aside0.mk hr0
  have HC0 := Aside0.mk hc0
  clear hr0 hc0
  have HB := Aside0.mk (Below.refl w.heap.size w)
  have H : (if (l0.length : Int) < 2 then (some (([] : List ByteArray))) else ((spec_l4Half.f k (l0.length : Int)).bind fun t739 => (if a1 < t739 then (if 0 ≤ t739 then (if t739 ≤ (l0.length : Int) then ((spec_l4Path.f k (l0.take (t739 : Int).toNat) a1).bind fun t744 => ((spec_l4Inner.f k (l0.drop (t739 : Int).toNat)).bind fun t751 => (if t744.length < 8796093022208 then (some (t744 ++ [t751])) else (none)))) else (none)) else (none)) else (if 0 ≤ t739 then (if t739 ≤ (l0.length : Int) then ((spec_l4Path.f k (l0.drop (t739 : Int).toNat) (wrap64 (a1 - t739))).bind fun t759 => ((spec_l4Inner.f k (l0.take (t739 : Int).toNat)).bind fun t766 => (if t759.length < 8796093022208 then (some (t759 ++ [t766])) else (none)))) else (none)) else (none))))) = some r := h
  clear h
  by_cases c3 : (l0.length : Int) < 2
  · rw [if_pos c3] at H
    have c3b0 : decide ((l0.length : Int) < 2) = true := decide_eq_true c3
    have c3b1 : decide (l0.length < 2) = true := decide_eq_true (by omega)
    clear c3
    obtain ⟨y736, hy736⟩ : ∃ y_ : List ByteArray, y_ = (([] : List ByteArray)) := ⟨_, rfl⟩
    replace H : (some y736) = some r := by first | (rw [hy736]; with_reducible exact H) | (have H2_ := (Option.bind_some _ _).symm.trans H; rw [hy736]; with_reducible exact H2_) | (have H2_ := (Option.bind_some _ _).symm.trans H; with_reducible exact H2_) | with_reducible exact H | (rw [hy736]; exact H) | exact H
    have Ny736 := Aside0.mk hy736
    clear hy736
    obtain rfl := Option.some.inj H
    go_enter Try.func50, Try.ntmps50
    go_wp2_with (first | ((with_reducible refine gate_dst (N := 9) rfl ?_); refine Kd.R_lit Kd.string _ 9 ?hg (N := 9) ?hd (xs := ([] : List ByteArray)) (inner := []) (ok := fun _ => True) (okp := fun _ => True) ?hr ?hp (fun _ hk => hk) trivial (Below.refl _ _) (Nat.le_refl _) (by simp) ?_; (case hd => rfl); (case hg => rfl); (case hr => first | (go_simp; done) | (go_simp; rfl)); (case hp => exact (Reps.none _ _)); intro v737 w4 ho5 hb hg_ hnew_; clear hg_ hnew_; (first | rw [← Ny736.out] at ho5 | (simp only [Int.reduceToNat] at ho5; rw [← Ny736.out] at ho5)); have n0_ := Aside0.mk (Kd.R_lower ho5 (below_size (be_ HB.out))); have n1_ := Aside0.mk (below_step (be_ HB.out) hb); clear HB; have HO738 := n0_; have HB := n1_; clear n0_ n1_; clear hb ho5))
    go_ret
    exact ⟨_, by first | rfl | (simp [errW_none, errW_some] <;> rfl) | (simp [*, errW_none, errW_some] <;> rfl), by (with_reducible repeat (first | apply Kd.R_alloc | apply Kd.R_drewN | apply Kd.R_drew)); exact HO738.out, be_ HB.out⟩
  · rw [if_neg c3] at H
    have c3b0 : decide ((l0.length : Int) < 2) = false := decide_eq_false c3
    have c3b1 : decide (l0.length < 2) = false := decide_eq_false (by omega)
    clear c3
    replace H := Option.bind_eq_some_iff.mp H
    obtain ⟨t739, A60, H⟩ := H
    have A6 := Aside0.mk A60
    clear A60
    by_cases c7 : a1 < t739
    · rw [if_pos c7] at H
      have c7b0 : decide (a1 < t739) = true := decide_eq_true c7
      clear c7
      by_cases c8 : 0 ≤ t739
      rotate_left
      · rw [if_neg c8] at H; exact absurd H (by simp)
      rw [if_pos c8] at H
      have c8b0 := eq_true c8
      have c8b1 : decide (0 ≤ t739) = true := decide_eq_true c8
      clear c8
      by_cases c9 : t739 ≤ (l0.length : Int)
      rotate_left
      · rw [if_neg c9] at H; exact absurd H (by simp)
      rw [if_pos c9] at H
      have c9b0 := eq_true c9
      have c9b1 : decide (t739 ≤ (l0.length : Int)) = true := decide_eq_true c9
      clear c9
      obtain ⟨y740, hy740⟩ : ∃ y_ : List (S26), y_ = (l0.take (t739 : Int).toNat) := ⟨_, rfl⟩
      replace H : ((spec_l4Path.f k y740 a1).bind fun t744 => ((spec_l4Inner.f k (l0.drop (t739 : Int).toNat)).bind fun t751 => (if t744.length < 8796093022208 then (some (t744 ++ [t751])) else (none)))) = some r := by first | (rw [hy740]; with_reducible exact H) | (have H2_ := (Option.bind_some _ _).symm.trans H; rw [hy740]; with_reducible exact H2_) | (have H2_ := (Option.bind_some _ _).symm.trans H; with_reducible exact H2_) | with_reducible exact H | (rw [hy740]; exact H) | exact H
      have Ny740 := Aside0.mk hy740
      clear hy740
      replace H := Option.bind_eq_some_iff.mp H
      obtain ⟨t744, A100, H⟩ := H
      have A10 := Aside0.mk A100
      clear A100
      have c11b0 := eq_true (of_decide_eq_true (by first | (with_reducible assumption) | assumption) : 0 ≤ t739)
      have c12b0 := eq_true (of_decide_eq_true (by first | (with_reducible assumption) | assumption) : t739 ≤ (l0.length : Int))
      obtain ⟨y747, hy747⟩ : ∃ y_ : List (S26), y_ = (l0.drop (t739 : Int).toNat) := ⟨_, rfl⟩
      replace H : ((spec_l4Inner.f k y747).bind fun t751 => (if t744.length < 8796093022208 then (some (t744 ++ [t751])) else (none))) = some r := by first | (rw [hy747]; with_reducible exact H) | (have H2_ := (Option.bind_some _ _).symm.trans H; rw [hy747]; with_reducible exact H2_) | (have H2_ := (Option.bind_some _ _).symm.trans H; with_reducible exact H2_) | with_reducible exact H | (rw [hy747]; exact H) | exact H
      have Ny747 := Aside0.mk hy747
      clear hy747
      replace H := Option.bind_eq_some_iff.mp H
      obtain ⟨t751, A130, H⟩ := H
      have A13 := Aside0.mk A130
      clear A130
      by_cases c14 : t744.length < 8796093022208
      rotate_left
      · rw [if_neg c14] at H; exact absurd H (by simp)
      rw [if_pos c14] at H
      have LMc14 := Aside0.mk c14
      clear c14
      obtain ⟨y752, hy752⟩ : ∃ y_ : List ByteArray, y_ = (t744 ++ [t751]) := ⟨_, rfl⟩
      replace H : (some y752) = some r := by first | (rw [hy752]; with_reducible exact H) | (have H2_ := (Option.bind_some _ _).symm.trans H; rw [hy752]; with_reducible exact H2_) | (have H2_ := (Option.bind_some _ _).symm.trans H; with_reducible exact H2_) | with_reducible exact H | (rw [hy752]; exact H) | exact H
      have Ny752 := Aside0.mk hy752
      clear hy752
      obtain rfl := Option.some.inj H
      go_enter Try.func50, Try.ntmps50
      try go_wp2_with (first | ((with_reducible refine gate_callee (f := 92) rfl ?_); refine goesL_ (some 12) rfl rfl Try.func92 (by kernel_rfl) rfl #[.int .i64 (l0.length : Int)] rfl al_ ?_; (with_reducible refine (spec_l4Half.calls k (l0.length : Int) t739 _ A6.out).mono ?_); rintro e w' ⟨rfl, ⟨nd, rfl⟩⟩; refine ⟨_, rfl, ?_⟩))
      have n0_ := Aside0.mk (below_drew1 (pw_below_drewN HB.out nd))
      clear HB
      have HB := n0_
      clear n0_
      have q16 : (t739 : Int) ≤ ((l0.length : Int) : Int) := of_decide_eq_true (by first | (with_reducible assumption) | assumption)
      obtain ⟨i016, hi016, _, hsz16, _⟩ := info_parts info26
      have hroom16 : l0.length ≤ c0 := HC0.out
      have hC16 : Kd.C k26 _ A0 l0.length l0 := HR0.out
      have hcut16 := cut_to (P := Try.prog) 24 26 .i64 Try.underlying24 hi016 A0 l0.length c0 t739 (of_decide_eq_true (by first | (with_reducible assumption) | assumption)) q16 hroom16
      have hr16 := Kd.C_take (m := (t739 : Int).toNat) hC16 (by omega)
      have hy16 : y740.length = (t739 : Int).toNat := (by rw [Ny740.out, List.length_take]; omega)
      rw [← Ny740.out] at hr16
      rw [← hy16] at hcut16
      have HR743 := Aside0.mk hr16
      have HC743 := Aside0.mk (show y740.length ≤ c0 from by omega)
      clear hr16 hC16 hroom16 hi016 hsz16
      have KY16 := Aside0.mk hy16
      clear hy16
      replace q16 := eq_true q16
      have q17 : (t739 : Int) ≤ ((l0.length : Int) : Int) := of_decide_eq_true (by first | (with_reducible assumption) | assumption)
      obtain ⟨i017, hi017, _, hsz17, _⟩ := info_parts info26
      have hroom17 : l0.length ≤ c0 := HC0.out
      have hC17 : Kd.C k26 _ A0 l0.length l0 := HR0.out
      have q017 : (0 : Int) ≤ (t739 : Int) := of_decide_eq_true (by first | (with_reducible assumption) | assumption)
      have hcut17 := cut_from (P := Try.prog) 24 26 .i64 Try.underlying24 hi017 2 hsz17 A0 l0.length c0 t739 q017 q17
      have hr17 := Kd.C_drop (m := (t739 : Int).toNat) (c := c0) hC17 (by omega) hroom17
      obtain ⟨A17, hA17⟩ : ∃ A1, A1 = (if c0 = (t739 : Int).toNat then A0 else (A0 : Option Addr).map (·.add ((t739 : Int).toNat * 2))) := ⟨_, rfl⟩
      obtain ⟨c17, hc17⟩ : ∃ c1, c1 = c0 - (t739 : Int).toNat := ⟨_, rfl⟩
      have hy17 : y747.length = l0.length - (t739 : Int).toNat := (by rw [Ny747.out, List.length_drop] <;> omega)
      rw [show (l0).drop (t739 : Int).toNat = y747 from Ny747.out.symm] at hr17
      replace hr17 : Kd.C k26 _ A17 y747.length y747 := (by rw [hA17]; exact hr17)
      rw [← hy17, ← hA17, ← hc17] at hcut17
      have HR750 := Aside0.mk hr17
      have HC750 := Aside0.mk (show y747.length ≤ c17 from by rw [hy17, hc17]; exact Nat.sub_le_sub_right hroom17 _)
      clear hr17 hC17 hroom17 hi017 hsz17 hc17
      have KY17 := Aside0.mk hy17
      have KA17 := Aside0.mk hA17
      clear hy17 hA17
      replace q17 := eq_true q17
      refine start_ (n := 12) (S := fun w' => True) (ds := []) (bq_ 0 12) (by kernel_rfl) rfl rfl trivial (fun hHeld => ?_); refine with_tabW spec_l4Path.tab5 spec_l4Path.bits5 (fun HT_ HW_ => ?_)
      generalize (World.drewN w nd).drew = w15 at HB HR743 HR750 hHeld ⊢
      refine pu_ 0 (some 16) (bq_ 1 11) HT_ ?_
      refine pu_ 1 (some 17) (bq_ 2 10) HT_ ?_
      refine pu_ 2 (some 18) (bq_ 3 9) HT_ ?_
      refine pu_ 3 (some 19) (bq_ 4 8) HT_ ?_
      refine pu_ 5 (some 21) #[true, true, true, true, false, true, false, false, false, false, false, false] HT_ ?_
      refine pu_ 6 (some 22) #[true, true, true, true, false, true, true, false, false, false, false, false] HT_ ?_
      refine pu_ 7 (some 23) #[true, true, true, true, false, true, true, true, false, false, false, false] HT_ ?_
      refine on_ 4 (some 20) (bq_ 8 4) HT_ (fun K hK => ?_)
      refine goes_ Try.func50 (by kernel_rfl) rfl #[.slice A0 y740.length c0, .int .i64 a1] (by rfl) rfl rfl al_ ?_
      with_reducible refine (ih k (by omega) _ _ y740 a1 t744 _ ?side1 ?side2 A10.out).mono ?_
      (case side1 => exact kc_ (Kd.C_below HR743.out HB.out))
      (case side2 => exact HC743.out)
      rintro e w18 ⟨v745, rfl, ho0, hb⟩
      refine ⟨_, rfl, ?_⟩
      have n0_ := Aside0.mk (Kd.R_lower ho0 (below_size (be_ HB.out)))
      have n1_ := Aside0.mk (below_step (be_ HB.out) hb)
      clear HB
      have HO746 := n0_
      have HB := n1_
      clear n0_ n1_
      (try clear hb)
      (try clear hb2)
      (try clear hk)
      (try clear hi)
      (try clear ho0)
      refine hK.out _ _ trivial (fun hHeld => ?_)
      clear hK K
      refine nm_ ?_
      refine on_ 8 (some 24) (bq_ 9 3) HT_ (fun K hK => ?_)
      refine goes_ Try.func93 (by kernel_rfl) rfl #[.slice A17 y747.length c17] (by rfl) rfl rfl al_ ?_
      with_reducible refine (spec_l4Inner.calls k _ _ y747 t751 _ ?side1 ?side2 A13.out).mono ?_
      (case side1 => exact kc_ (Kd.C_below HR750.out HB.out))
      (case side2 => exact HC750.out)
      rintro e w19 ⟨rfl, hb⟩
      refine ⟨_, rfl, ?_⟩
      have n0_ := Aside0.mk (Kd.R_below (kr_ HO746.out) hb)
      have n1_ := Aside0.mk (below_step (be_ HB.out) hb)
      clear HO746
      clear HB
      have HO746 := n0_
      have HB := n1_
      clear n0_ n1_
      (try clear hb)
      (try clear hb2)
      (try clear hk)
      (try clear hi)
      refine hK.out _ _ trivial (fun hHeld => ?_)
      clear hK K
      refine nm_ ?_
      refine on_ 9 (some 25) (bq_ 10 2) HT_ (fun K hK => ?_)
      refine value_ (w1 := ?_) (v := ?_) (by rfl) rfl ?_ ?_
      rotate_left 2
      · go_simp
        constructor
        · rfl
        · rfl
      refine hK.out _ _ trivial (fun hHeld => ?_)
      clear hK K
      refine nm_ ?_
      refine on_ 10 (some 26) (bq_ 11 1) HT_ (fun K hK => ?_)
      refine Kd.R_append_step Kd.string (w0 := w) w.heap.size (by rfl) (.tmp 20) (.tmp 25) 27 9 (.string ⟨#[]⟩) 16 rfl Try.underlying27 info9 rfl (by decide) (by omega) v745 t744 t751 [.string t751] (fun _ => True) (fun _ => False) rfl rfl ?aP (fun _ hk => hk.elim) ?aF ?aO ?aB ?aS ?aL ?_
      (case aP => exact rfl)
      (case aB => exact (be_ HB.out))
      (case aF => exact (fun _ _ => trivial))
      (case aO => exact (kr_ HO746.out))
      (case aS => exact (below_size (be_ HB.out)))
      (case aL => have := LMc14.out; omega)
      intro v753 w20 ho hb hg hat
      rw [← Ny752.out] at ho
      have n0_ := Aside0.mk (hb)
      have n1_ := Aside0.mk (ho)
      clear HB
      clear HO746
      have HB := n0_
      have HO754 := n1_
      clear n0_ n1_
      clear ho hb hg hat
      refine hK.out _ _ trivial (fun hHeld => ?_)
      clear hK K
      refine nm_ ?_
      refine pu_ 11 (some 4) (bq_ 12 0) HT_ ?_
      refine done_ (done_of HT_.out (by kernel_rfl)) ?_
      try go_wp2
      go_ret
      exact ⟨_, by first | rfl | (simp [errW_none, errW_some] <;> rfl) | (simp [*, errW_none, errW_some] <;> rfl), by (with_reducible repeat (first | apply Kd.R_alloc | apply Kd.R_drewN | apply Kd.R_drew)); exact HO754.out, be_ HB.out⟩
    · rw [if_neg c7] at H
      have c7b0 : decide (a1 < t739) = false := decide_eq_false c7
      clear c7
      by_cases c21 : 0 ≤ t739
      rotate_left
      · rw [if_neg c21] at H; exact absurd H (by simp)
      rw [if_pos c21] at H
      have c21b0 := eq_true c21
      have c21b1 : decide (0 ≤ t739) = true := decide_eq_true c21
      clear c21
      by_cases c22 : t739 ≤ (l0.length : Int)
      rotate_left
      · rw [if_neg c22] at H; exact absurd H (by simp)
      rw [if_pos c22] at H
      have c22b0 := eq_true c22
      have c22b1 : decide (t739 ≤ (l0.length : Int)) = true := decide_eq_true c22
      clear c22
      obtain ⟨y755, hy755⟩ : ∃ y_ : List (S26), y_ = (l0.drop (t739 : Int).toNat) := ⟨_, rfl⟩
      replace H : ((spec_l4Path.f k y755 (wrap64 (a1 - t739))).bind fun t759 => ((spec_l4Inner.f k (l0.take (t739 : Int).toNat)).bind fun t766 => (if t759.length < 8796093022208 then (some (t759 ++ [t766])) else (none)))) = some r := by first | (rw [hy755]; with_reducible exact H) | (have H2_ := (Option.bind_some _ _).symm.trans H; rw [hy755]; with_reducible exact H2_) | (have H2_ := (Option.bind_some _ _).symm.trans H; with_reducible exact H2_) | with_reducible exact H | (rw [hy755]; exact H) | exact H
      have Ny755 := Aside0.mk hy755
      clear hy755
      replace H := Option.bind_eq_some_iff.mp H
      obtain ⟨t759, A230, H⟩ := H
      have A23 := Aside0.mk A230
      clear A230
      have c24b0 := eq_true (of_decide_eq_true (by first | (with_reducible assumption) | assumption) : 0 ≤ t739)
      have c25b0 := eq_true (of_decide_eq_true (by first | (with_reducible assumption) | assumption) : t739 ≤ (l0.length : Int))
      obtain ⟨y762, hy762⟩ : ∃ y_ : List (S26), y_ = (l0.take (t739 : Int).toNat) := ⟨_, rfl⟩
      replace H : ((spec_l4Inner.f k y762).bind fun t766 => (if t759.length < 8796093022208 then (some (t759 ++ [t766])) else (none))) = some r := by first | (rw [hy762]; with_reducible exact H) | (have H2_ := (Option.bind_some _ _).symm.trans H; rw [hy762]; with_reducible exact H2_) | (have H2_ := (Option.bind_some _ _).symm.trans H; with_reducible exact H2_) | with_reducible exact H | (rw [hy762]; exact H) | exact H
      have Ny762 := Aside0.mk hy762
      clear hy762
      replace H := Option.bind_eq_some_iff.mp H
      obtain ⟨t766, A260, H⟩ := H
      have A26 := Aside0.mk A260
      clear A260
      by_cases c27 : t759.length < 8796093022208
      rotate_left
      · rw [if_neg c27] at H; exact absurd H (by simp)
      rw [if_pos c27] at H
      have LMc27 := Aside0.mk c27
      clear c27
      obtain ⟨y767, hy767⟩ : ∃ y_ : List ByteArray, y_ = (t759 ++ [t766]) := ⟨_, rfl⟩
      replace H : (some y767) = some r := by first | (rw [hy767]; with_reducible exact H) | (have H2_ := (Option.bind_some _ _).symm.trans H; rw [hy767]; with_reducible exact H2_) | (have H2_ := (Option.bind_some _ _).symm.trans H; with_reducible exact H2_) | with_reducible exact H | (rw [hy767]; exact H) | exact H
      have Ny767 := Aside0.mk hy767
      clear hy767
      obtain rfl := Option.some.inj H
      go_enter Try.func50, Try.ntmps50
      try go_wp2_with (first | ((with_reducible refine gate_callee (f := 92) rfl ?_); refine goesL_ (some 12) rfl rfl Try.func92 (by kernel_rfl) rfl #[.int .i64 (l0.length : Int)] rfl al_ ?_; (with_reducible refine (spec_l4Half.calls k (l0.length : Int) t739 _ A6.out).mono ?_); rintro e w' ⟨rfl, ⟨nd, rfl⟩⟩; refine ⟨_, rfl, ?_⟩))
      have n0_ := Aside0.mk (below_drew1 (pw_below_drewN HB.out nd))
      clear HB
      have HB := n0_
      clear n0_
      have q29 : (t739 : Int) ≤ ((l0.length : Int) : Int) := of_decide_eq_true (by first | (with_reducible assumption) | assumption)
      obtain ⟨i029, hi029, _, hsz29, _⟩ := info_parts info26
      have hroom29 : l0.length ≤ c0 := HC0.out
      have hC29 : Kd.C k26 _ A0 l0.length l0 := HR0.out
      have q029 : (0 : Int) ≤ (t739 : Int) := of_decide_eq_true (by first | (with_reducible assumption) | assumption)
      have hcut29 := cut_from (P := Try.prog) 24 26 .i64 Try.underlying24 hi029 2 hsz29 A0 l0.length c0 t739 q029 q29
      have hr29 := Kd.C_drop (m := (t739 : Int).toNat) (c := c0) hC29 (by omega) hroom29
      obtain ⟨A29, hA29⟩ : ∃ A1, A1 = (if c0 = (t739 : Int).toNat then A0 else (A0 : Option Addr).map (·.add ((t739 : Int).toNat * 2))) := ⟨_, rfl⟩
      obtain ⟨c29, hc29⟩ : ∃ c1, c1 = c0 - (t739 : Int).toNat := ⟨_, rfl⟩
      have hy29 : y755.length = l0.length - (t739 : Int).toNat := (by rw [Ny755.out, List.length_drop] <;> omega)
      rw [show (l0).drop (t739 : Int).toNat = y755 from Ny755.out.symm] at hr29
      replace hr29 : Kd.C k26 _ A29 y755.length y755 := (by rw [hA29]; exact hr29)
      rw [← hy29, ← hA29, ← hc29] at hcut29
      have HR758 := Aside0.mk hr29
      have HC758 := Aside0.mk (show y755.length ≤ c29 from by rw [hy29, hc29]; exact Nat.sub_le_sub_right hroom29 _)
      clear hr29 hC29 hroom29 hi029 hsz29 hc29
      have KY29 := Aside0.mk hy29
      have KA29 := Aside0.mk hA29
      clear hy29 hA29
      replace q29 := eq_true q29
      have q30 : (t739 : Int) ≤ ((l0.length : Int) : Int) := of_decide_eq_true (by first | (with_reducible assumption) | assumption)
      obtain ⟨i030, hi030, _, hsz30, _⟩ := info_parts info26
      have hroom30 : l0.length ≤ c0 := HC0.out
      have hC30 : Kd.C k26 _ A0 l0.length l0 := HR0.out
      have hcut30 := cut_to (P := Try.prog) 24 26 .i64 Try.underlying24 hi030 A0 l0.length c0 t739 (of_decide_eq_true (by first | (with_reducible assumption) | assumption)) q30 hroom30
      have hr30 := Kd.C_take (m := (t739 : Int).toNat) hC30 (by omega)
      have hy30 : y762.length = (t739 : Int).toNat := (by rw [Ny762.out, List.length_take]; omega)
      rw [← Ny762.out] at hr30
      rw [← hy30] at hcut30
      have HR765 := Aside0.mk hr30
      have HC765 := Aside0.mk (show y762.length ≤ c0 from by omega)
      clear hr30 hC30 hroom30 hi030 hsz30
      have KY30 := Aside0.mk hy30
      clear hy30
      replace q30 := eq_true q30
      refine start_ (n := 14) (S := fun w' => True) (ds := []) (bq_ 0 14) (by kernel_rfl) rfl rfl trivial (fun hHeld => ?_); refine with_tabW spec_l4Path.tab6 spec_l4Path.bits6 (fun HT_ HW_ => ?_)
      generalize (World.drewN w nd).drew = w28 at HB HR758 HR765 hHeld ⊢
      refine pu_ 0 (some 27) (bq_ 1 13) HT_ ?_
      refine pu_ 1 (some 28) (bq_ 2 12) HT_ ?_
      refine pu_ 2 (some 29) (bq_ 3 11) HT_ ?_
      refine pu_ 3 (some 30) (bq_ 4 10) HT_ ?_
      refine pu_ 4 (some 31) (bq_ 5 9) HT_ ?_
      refine pu_ 5 (some 32) (bq_ 6 8) HT_ ?_
      refine pu_ 7 (some 34) #[true, true, true, true, true, true, false, true, false, false, false, false, false, false] HT_ ?_
      refine pu_ 8 (some 35) #[true, true, true, true, true, true, false, true, true, false, false, false, false, false] HT_ ?_
      refine pu_ 9 (some 36) #[true, true, true, true, true, true, false, true, true, true, false, false, false, false] HT_ ?_
      refine on_ 6 (some 33) (bq_ 10 4) HT_ (fun K hK => ?_)
      refine goes_ Try.func50 (by kernel_rfl) rfl #[.slice A29 y755.length c29, .int .i64 (wrap64 (a1 - t739))] (by rfl) rfl rfl al_ ?_
      with_reducible refine (ih k (by omega) _ _ y755 (wrap64 (a1 - t739)) t759 _ ?side1 ?side2 A23.out).mono ?_
      (case side1 => exact kc_ (Kd.C_below HR758.out HB.out))
      (case side2 => exact HC758.out)
      rintro e w31 ⟨v760, rfl, ho0, hb⟩
      refine ⟨_, rfl, ?_⟩
      have n0_ := Aside0.mk (Kd.R_lower ho0 (below_size (be_ HB.out)))
      have n1_ := Aside0.mk (below_step (be_ HB.out) hb)
      clear HB
      have HO761 := n0_
      have HB := n1_
      clear n0_ n1_
      (try clear hb)
      (try clear hb2)
      (try clear hk)
      (try clear hi)
      (try clear ho0)
      refine hK.out _ _ trivial (fun hHeld => ?_)
      clear hK K
      refine nm_ ?_
      refine on_ 10 (some 37) (bq_ 11 3) HT_ (fun K hK => ?_)
      refine goes_ Try.func93 (by kernel_rfl) rfl #[.slice A0 y762.length c0] (by rfl) rfl rfl al_ ?_
      with_reducible refine (spec_l4Inner.calls k _ _ y762 t766 _ ?side1 ?side2 A26.out).mono ?_
      (case side1 => exact kc_ (Kd.C_below HR765.out HB.out))
      (case side2 => exact HC765.out)
      rintro e w32 ⟨rfl, hb⟩
      refine ⟨_, rfl, ?_⟩
      have n0_ := Aside0.mk (Kd.R_below (kr_ HO761.out) hb)
      have n1_ := Aside0.mk (below_step (be_ HB.out) hb)
      clear HO761
      clear HB
      have HO761 := n0_
      have HB := n1_
      clear n0_ n1_
      (try clear hb)
      (try clear hb2)
      (try clear hk)
      (try clear hi)
      refine hK.out _ _ trivial (fun hHeld => ?_)
      clear hK K
      refine nm_ ?_
      refine on_ 11 (some 38) (bq_ 12 2) HT_ (fun K hK => ?_)
      refine value_ (w1 := ?_) (v := ?_) (by rfl) rfl ?_ ?_
      rotate_left 2
      · go_simp
        constructor
        · rfl
        · rfl
      refine hK.out _ _ trivial (fun hHeld => ?_)
      clear hK K
      refine nm_ ?_
      refine on_ 12 (some 39) (bq_ 13 1) HT_ (fun K hK => ?_)
      refine Kd.R_append_step Kd.string (w0 := w) w.heap.size (by rfl) (.tmp 33) (.tmp 38) 27 9 (.string ⟨#[]⟩) 16 rfl Try.underlying27 info9 rfl (by decide) (by omega) v760 t759 t766 [.string t766] (fun _ => True) (fun _ => False) rfl rfl ?aP (fun _ hk => hk.elim) ?aF ?aO ?aB ?aS ?aL ?_
      (case aP => exact rfl)
      (case aB => exact (be_ HB.out))
      (case aF => exact (fun _ _ => trivial))
      (case aO => exact (kr_ HO761.out))
      (case aS => exact (below_size (be_ HB.out)))
      (case aL => have := LMc27.out; omega)
      intro v768 w33 ho hb hg hat
      rw [← Ny767.out] at ho
      have n0_ := Aside0.mk (hb)
      have n1_ := Aside0.mk (ho)
      clear HB
      clear HO761
      have HB := n0_
      have HO769 := n1_
      clear n0_ n1_
      clear ho hb hg hat
      refine hK.out _ _ trivial (fun hHeld => ?_)
      clear hK K
      refine nm_ ?_
      refine pu_ 13 (some 4) (bq_ 14 0) HT_ ?_
      refine done_ (done_of HT_.out (by kernel_rfl)) ?_
      try go_wp2
      go_ret
      exact ⟨_, by first | rfl | (simp [errW_none, errW_some] <;> rfl) | (simp [*, errW_none, errW_some] <;> rfl), by (with_reducible repeat (first | apply Kd.R_alloc | apply Kd.R_drewN | apply Kd.R_drew)); exact HO769.out, be_ HB.out⟩

/-! ###  spec_l3In: function 73 -/
def spec_l3In.f (a0 : ByteArray) (a1 : ByteArray) (a2 : ByteArray) : Option (Bool) := if ((Op.bytesLess a0.toList a1.toList) = true) then (some false) else (if a2.toList = ([] : List UInt8) then (some true) else (some (Op.bytesLess a0.toList a2.toList)))
set_option maxHeartbeats 8000000 in
set_option maxRecDepth 100000 in
theorem spec_l3In.calls (a0 : ByteArray) (a1 : ByteArray) (a2 : ByteArray) (r : Bool) (w : World) (h : spec_l3In.f a0 a1 a2 = some r) :
  Calls Try.prog 73 #[.string a0, .string a1, .string a2] w fun e w' => e = .returned (.bool r) ∧ Drawn0 w w' := by
  have H : (if ((Op.bytesLess a0.toList a1.toList) = true) then (some false) else (if a2.toList = ([] : List UInt8) then (some true) else (some (Op.bytesLess a0.toList a2.toList)))) = some r := h
  clear h
  by_cases c4 : ((Op.bytesLess a0.toList a1.toList) = true)
  · rw [if_pos c4] at H
    have c4b0 : (Op.bytesLess a0.toList a1.toList) = true := c4
    clear c4
    obtain rfl := Option.some.inj H
    go_enter Try.func73, Try.ntmps73
    go_wp2
    go_ret
    exact ⟨by first | rfl | (simp; done) | (simp [*]; done), by repeat (first | exact Drawn0.refl _ | apply Drawn0.step)⟩
  · rw [if_neg c4] at H
    have c4b0 : (Op.bytesLess a0.toList a1.toList) = false := by simpa using c4
    clear c4
    by_cases c5 : a2.toList = ([] : List UInt8)
    · rw [if_pos c5] at H
      have c5b0 : (a2.toList == ([] : List UInt8)) = true := beq_iff_eq.mpr c5
      have c5b1 : (a2.toList != ([] : List UInt8)) = false := bne_eq_false_iff_eq.mpr c5
      clear c5
      obtain rfl := Option.some.inj H
      go_enter Try.func73, Try.ntmps73
      go_wp2
      go_ret
      exact ⟨by first | rfl | (simp; done) | (simp [*]; done), by repeat (first | exact Drawn0.refl _ | apply Drawn0.step)⟩
    · rw [if_neg c5] at H
      have c5b0 : (a2.toList == ([] : List UInt8)) = false := beq_eq_false_iff_ne.mpr c5
      have c5b1 : (a2.toList != ([] : List UInt8)) = true := bne_iff_ne.mpr c5
      obtain rfl := Option.some.inj H
      go_enter Try.func73, Try.ntmps73
      go_wp2
      go_ret
      exact ⟨by first | rfl | (simp; done) | (simp [*]; done), by repeat (first | exact Drawn0.refl _ | apply Drawn0.step)⟩

end Go.Proofs.Ytgaalomhipfgjaa.P
