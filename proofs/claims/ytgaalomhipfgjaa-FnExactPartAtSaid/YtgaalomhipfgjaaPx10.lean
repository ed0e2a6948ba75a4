-- Written by wip/xp/xp.py over the kit's print; Lean checks it.
import Derived.Test.YtgaalomhipfgjaaPx0
import Derived.Test.YtgaalomhipfgjaaPx6
import Derived.Test.YtgaalomhipfgjaaPx9
namespace Go.Proofs.Ytgaalomhipfgjaa.P
open Go.RowKit Go.Proofs.YtgaalomhipfgjaaW.PrintWords Go.Proofs.YtgaalomhipfgjaaW.PrintLast Go.Proofs.YtgaalomhipfgjaaW.PrintMore
attribute [local go_sem] max2_int min2_int max_two min_two max_three min_three max_four min_four   -- for this text's walks alone
set_option linter.unusedVariables false
set_option linter.unusedSimpArgs false

/-! ###  spec_l4Path: function 50 -/
def spec_l4Path.f : Nat → List (S26) → Int → Option (List ByteArray)
  | 0, _, _ => none
  | k + 1, l0, a1 => if (l0.length : Int) < 2 then (some (([] : List ByteArray))) else ((spec_l4Half.f k (l0.length : Int)).bind fun t473 => (if a1 < t473 then (if 0 ≤ t473 then (if t473 ≤ (l0.length : Int) then ((spec_l4Path.f k (l0.take (t473 : Int).toNat) a1).bind fun t478 => ((spec_l4Inner.f k (l0.drop (t473 : Int).toNat)).bind fun t485 => (if t478.length < 8796093022208 then (some (t478 ++ [t485])) else (none)))) else (none)) else (none)) else (if 0 ≤ t473 then (if t473 ≤ (l0.length : Int) then ((spec_l4Path.f k (l0.drop (t473 : Int).toNat) (wrap64 (a1 - t473))).bind fun t493 => ((spec_l4Inner.f k (l0.take (t473 : Int).toNat)).bind fun t500 => (if t493.length < 8796093022208 then (some (t493 ++ [t500])) else (none)))) else (none)) else (none))))
def spec_l4Path.T5 : Bool × List (List Nat × List Nat) := (true, [([], []), ([], []), ([0, 1], [0, 1]), ([], []), ([2, 3], [2, 3]), ([], []), ([], []), ([5, 6], [5, 6]), ([7, 4], [7]), ([8], [8]), ([4, 9, 8], [4, 9]), ([10, 10, 0, 1, 2, 3, 4, 5, 6, 7, 8, 9, 10], [10])])
def spec_l4Path.B5 : List Nat := [0, 0, 3, 0, 15, 0, 0, 96, 255, 511, 1023, 2047]
theorem spec_l4Path.tab5 : rtab .any (opsOf Try.f50 5) = spec_l4Path.T5 := by kernel_rfl
theorem spec_l4Path.bits5 : waitsOk spec_l4Path.T5.2 spec_l4Path.B5 = true := by kernel_rfl
def spec_l4Path.T6 : Bool × List (List Nat × List Nat) := (true, [([], []), ([], []), ([0, 1], [0, 1]), ([], []), ([], []), ([3, 4], [3, 4]), ([2, 5], [2, 5]), ([], []), ([], []), ([7, 8], [7, 8]), ([9, 6], [9]), ([10], [10]), ([6, 11, 10], [6, 11]), ([12, 12, 0, 1, 2, 3, 4, 5, 6, 7, 8, 9, 10, 11, 12], [12])])
def spec_l4Path.B6 : List Nat := [0, 0, 3, 0, 0, 24, 63, 0, 0, 384, 1023, 2047, 4095, 8191]
theorem spec_l4Path.tab6 : rtab .any (opsOf Try.f50 6) = spec_l4Path.T6 := by kernel_rfl
theorem spec_l4Path.bits6 : waitsOk spec_l4Path.T6.2 spec_l4Path.B6 = true := by kernel_rfl
set_option maxHeartbeats 8000000 in
set_option maxRecDepth 100000 in
theorem spec_l4Path.calls (k : Nat) : ∀ (A0 : Option Addr) (c0 : Nat) (l0 : List (S26)) (a1 : Int) (r : List ByteArray) (w : World) (hr0 : Kd.C k26 w A0 l0.length l0) (hc0 : l0.length ≤ c0) (h : spec_l4Path.f k l0 a1 = some r),
  Calls Try.prog 50 #[.slice A0 l0.length c0, .int .i64 a1] w fun e w' => ∃ v0_ : Value, e = .returned (v0_) ∧ Kd.R Kd.string 9 w' w.heap.size (fun _ => True) v0_ r ∧ Below w.heap.size w w' := by
  induction k using Nat.strongRecOn with
  | _ k ih =>
  intro A0 c0 l0 a1 r w hr0 hc0 h
  cases k with
  | zero => exact absurd h (by simp [spec_l4Path.f])
  | succ k =>
  simp only [spec_l4Path.f] at h
  have HR0 := Aside0.mk hr0
  have HC0 := Aside0.mk hc0
  clear hr0 hc0
  have HB := Aside0.mk (Below.refl w.heap.size w)
  have H : (if (l0.length : Int) < 2 then (some (([] : List ByteArray))) else ((spec_l4Half.f k (l0.length : Int)).bind fun t473 => (if a1 < t473 then (if 0 ≤ t473 then (if t473 ≤ (l0.length : Int) then ((spec_l4Path.f k (l0.take (t473 : Int).toNat) a1).bind fun t478 => ((spec_l4Inner.f k (l0.drop (t473 : Int).toNat)).bind fun t485 => (if t478.length < 8796093022208 then (some (t478 ++ [t485])) else (none)))) else (none)) else (none)) else (if 0 ≤ t473 then (if t473 ≤ (l0.length : Int) then ((spec_l4Path.f k (l0.drop (t473 : Int).toNat) (wrap64 (a1 - t473))).bind fun t493 => ((spec_l4Inner.f k (l0.take (t473 : Int).toNat)).bind fun t500 => (if t493.length < 8796093022208 then (some (t493 ++ [t500])) else (none)))) else (none)) else (none))))) = some r := h
  clear h
  by_cases c3 : (l0.length : Int) < 2
  · rw [if_pos c3] at H
    have c3b0 : decide ((l0.length : Int) < 2) = true := decide_eq_true c3
    have c3b1 : decide (l0.length < 2) = true := decide_eq_true (by omega)
    clear c3
    obtain ⟨y470, hy470⟩ : ∃ y_ : List ByteArray, y_ = (([] : List ByteArray)) := ⟨_, rfl⟩
    replace H : (some y470) = some r := by first | (rw [hy470]; with_reducible exact H) | (have H2_ := (Option.bind_some _ _).symm.trans H; rw [hy470]; with_reducible exact H2_) | (have H2_ := (Option.bind_some _ _).symm.trans H; with_reducible exact H2_) | with_reducible exact H | (rw [hy470]; exact H) | exact H
    have Ny470 := Aside0.mk hy470
    clear hy470
    obtain rfl := Option.some.inj H
    go_enter Try.func50, Try.ntmps50
    go_wp2_with (first | ((with_reducible refine gate_dst (N := 9) rfl ?_); refine Kd.R_lit Kd.string _ 9 ?hg (N := 9) ?hd (xs := ([] : List ByteArray)) (inner := []) (ok := fun _ => True) (okp := fun _ => True) ?hr ?hp (fun _ hk => hk) trivial (Below.refl _ _) (Nat.le_refl _) (by simp) ?_; (case hd => rfl); (case hg => rfl); (case hr => first | (go_simp; done) | (go_simp; rfl)); (case hp => exact (Reps.none _ _)); intro v471 w4 ho5 hb hg_ hnew_; clear hg_ hnew_; (first | rw [← Ny470.out] at ho5 | (simp only [Int.reduceToNat] at ho5; rw [← Ny470.out] at ho5)); have n0_ := Aside0.mk (Kd.R_lower ho5 (below_size (be_ HB.out))); have n1_ := Aside0.mk (below_step (be_ HB.out) hb); clear HB; have HO472 := n0_; have HB := n1_; clear n0_ n1_; clear hb ho5))
    go_ret
    exact ⟨_, by first | rfl | (simp [errW_none, errW_some] <;> rfl) | (simp [*, errW_none, errW_some] <;> rfl), by (with_reducible repeat (first | apply Kd.R_alloc | apply Kd.R_drewN | apply Kd.R_drew)); exact HO472.out, be_ HB.out⟩
  · rw [if_neg c3] at H
    have c3b0 : decide ((l0.length : Int) < 2) = false := decide_eq_false c3
    have c3b1 : decide (l0.length < 2) = false := decide_eq_false (by omega)
    clear c3
    replace H := Option.bind_eq_some_iff.mp H
    obtain ⟨t473, A60, H⟩ := H
    have A6 := Aside0.mk A60
    clear A60
    by_cases c7 : a1 < t473
    · rw [if_pos c7] at H
      have c7b0 : decide (a1 < t473) = true := decide_eq_true c7
      clear c7
      by_cases c8 : 0 ≤ t473
      rotate_left
      · rw [if_neg c8] at H; exact absurd H (by simp)
      rw [if_pos c8] at H
      have c8b0 := eq_true c8
      have c8b1 : decide (0 ≤ t473) = true := decide_eq_true c8
      clear c8
      by_cases c9 : t473 ≤ (l0.length : Int)
      rotate_left
      · rw [if_neg c9] at H; exact absurd H (by simp)
      rw [if_pos c9] at H
      have c9b0 := eq_true c9
      have c9b1 : decide (t473 ≤ (l0.length : Int)) = true := decide_eq_true c9
      clear c9
      obtain ⟨y474, hy474⟩ : ∃ y_ : List (S26), y_ = (l0.take (t473 : Int).toNat) := ⟨_, rfl⟩
      replace H : ((spec_l4Path.f k y474 a1).bind fun t478 => ((spec_l4Inner.f k (l0.drop (t473 : Int).toNat)).bind fun t485 => (if t478.length < 8796093022208 then (some (t478 ++ [t485])) else (none)))) = some r := by first | (rw [hy474]; with_reducible exact H) | (have H2_ := (Option.bind_some _ _).symm.trans H; rw [hy474]; with_reducible exact H2_) | (have H2_ := (Option.bind_some _ _).symm.trans H; with_reducible exact H2_) | with_reducible exact H | (rw [hy474]; exact H) | exact H
      have Ny474 := Aside0.mk hy474
      clear hy474
      replace H := Option.bind_eq_some_iff.mp H
      obtain ⟨t478, A100, H⟩ := H
      have A10 := Aside0.mk A100
      clear A100
      have c11b0 := eq_true (of_decide_eq_true (by first | (with_reducible assumption) | assumption) : 0 ≤ t473)
      have c12b0 := eq_true (of_decide_eq_true (by first | (with_reducible assumption) | assumption) : t473 ≤ (l0.length : Int))
      obtain ⟨y481, hy481⟩ : ∃ y_ : List (S26), y_ = (l0.drop (t473 : Int).toNat) := ⟨_, rfl⟩
      replace H : ((spec_l4Inner.f k y481).bind fun t485 => (if t478.length < 8796093022208 then (some (t478 ++ [t485])) else (none))) = some r := by first | (rw [hy481]; with_reducible exact H) | (have H2_ := (Option.bind_some _ _).symm.trans H; rw [hy481]; with_reducible exact H2_) | (have H2_ := (Option.bind_some _ _).symm.trans H; with_reducible exact H2_) | with_reducible exact H | (rw [hy481]; exact H) | exact H
      have Ny481 := Aside0.mk hy481
      clear hy481
      replace H := Option.bind_eq_some_iff.mp H
      obtain ⟨t485, A130, H⟩ := H
      have A13 := Aside0.mk A130
      clear A130
      by_cases c14 : t478.length < 8796093022208
      rotate_left
      · rw [if_neg c14] at H; exact absurd H (by simp)
      rw [if_pos c14] at H
      have LMc14 := Aside0.mk c14
      clear c14
      obtain ⟨y486, hy486⟩ : ∃ y_ : List ByteArray, y_ = (t478 ++ [t485]) := ⟨_, rfl⟩
      replace H : (some y486) = some r := by first | (rw [hy486]; with_reducible exact H) | (have H2_ := (Option.bind_some _ _).symm.trans H; rw [hy486]; with_reducible exact H2_) | (have H2_ := (Option.bind_some _ _).symm.trans H; with_reducible exact H2_) | with_reducible exact H | (rw [hy486]; exact H) | exact H
      have Ny486 := Aside0.mk hy486
      clear hy486
      obtain rfl := Option.some.inj H
      go_enter Try.func50, Try.ntmps50
      try go_wp2_with (first | ((with_reducible refine gate_callee (f := 92) rfl ?_); refine goesL_ (some 12) rfl rfl Try.func92 (by kernel_rfl) rfl #[.int .i64 (l0.length : Int)] rfl al_ ?_; (with_reducible refine (spec_l4Half.calls k (l0.length : Int) t473 _ A6.out).mono ?_); rintro e w' ⟨rfl, ⟨nd, rfl⟩⟩; refine ⟨_, rfl, ?_⟩))
      have n0_ := Aside0.mk (below_drew1 (pw_below_drewN HB.out nd))
      clear HB
      have HB := n0_
      clear n0_
      have q16 : (t473 : Int) ≤ ((l0.length : Int) : Int) := of_decide_eq_true (by first | (with_reducible assumption) | assumption)
      obtain ⟨i016, hi016, _, hsz16, _⟩ := info_parts info26
      have hroom16 : l0.length ≤ c0 := HC0.out
      have hC16 : Kd.C k26 _ A0 l0.length l0 := HR0.out
      have hcut16 := cut_to (P := Try.prog) 24 26 .i64 Try.underlying24 hi016 A0 l0.length c0 t473 (of_decide_eq_true (by first | (with_reducible assumption) | assumption)) q16 hroom16
      have hr16 := Kd.C_take (m := (t473 : Int).toNat) hC16 (by omega)
      have hy16 : y474.length = (t473 : Int).toNat := (by rw [Ny474.out, List.length_take]; omega)
      rw [← Ny474.out] at hr16
      rw [← hy16] at hcut16
      have HR477 := Aside0.mk hr16
      have HC477 := Aside0.mk (show y474.length ≤ c0 from by omega)
      clear hr16 hC16 hroom16 hi016 hsz16
      have KY16 := Aside0.mk hy16
      clear hy16
      replace q16 := eq_true q16
      have q17 : (t473 : Int) ≤ ((l0.length : Int) : Int) := of_decide_eq_true (by first | (with_reducible assumption) | assumption)
      obtain ⟨i017, hi017, _, hsz17, _⟩ := info_parts info26
      have hroom17 : l0.length ≤ c0 := HC0.out
      have hC17 : Kd.C k26 _ A0 l0.length l0 := HR0.out
      have q017 : (0 : Int) ≤ (t473 : Int) := of_decide_eq_true (by first | (with_reducible assumption) | assumption)
      have hcut17 := cut_from (P := Try.prog) 24 26 .i64 Try.underlying24 hi017 2 hsz17 A0 l0.length c0 t473 q017 q17
      have hr17 := Kd.C_drop (m := (t473 : Int).toNat) (c := c0) hC17 (by omega) hroom17
      obtain ⟨A17, hA17⟩ : ∃ A1, A1 = (if c0 = (t473 : Int).toNat then A0 else (A0 : Option Addr).map (·.add ((t473 : Int).toNat * 2))) := ⟨_, rfl⟩
      obtain ⟨c17, hc17⟩ : ∃ c1, c1 = c0 - (t473 : Int).toNat := ⟨_, rfl⟩
      have hy17 : y481.length = l0.length - (t473 : Int).toNat := (by rw [Ny481.out, List.length_drop] <;> omega)
      rw [show (l0).drop (t473 : Int).toNat = y481 from Ny481.out.symm] at hr17
      replace hr17 : Kd.C k26 _ A17 y481.length y481 := (by rw [hA17]; exact hr17)
      rw [← hy17, ← hA17, ← hc17] at hcut17
      have HR484 := Aside0.mk hr17
      have HC484 := Aside0.mk (show y481.length ≤ c17 from by rw [hy17, hc17]; exact Nat.sub_le_sub_right hroom17 _)
      clear hr17 hC17 hroom17 hi017 hsz17 hc17
      have KY17 := Aside0.mk hy17
      have KA17 := Aside0.mk hA17
      clear hy17 hA17
      replace q17 := eq_true q17
      refine start_ (n := 12) (S := fun w' => True) (ds := []) (bq_ 0 12) (by kernel_rfl) rfl rfl trivial (fun hHeld => ?_); refine with_tabW spec_l4Path.tab5 spec_l4Path.bits5 (fun HT_ HW_ => ?_)
      generalize (World.drewN w nd).drew = w15 at HB HR477 HR484 hHeld ⊢
      refine pu_ 0 (some 16) (bq_ 1 11) HT_ ?_
      refine pu_ 1 (some 17) (bq_ 2 10) HT_ ?_
      refine pu_ 2 (some 18) (bq_ 3 9) HT_ ?_
      refine pu_ 3 (some 19) (bq_ 4 8) HT_ ?_
      refine pu_ 5 (some 21) #[true, true, true, true, false, true, false, false, false, false, false, false] HT_ ?_
      refine pu_ 6 (some 22) #[true, true, true, true, false, true, true, false, false, false, false, false] HT_ ?_
      refine pu_ 7 (some 23) #[true, true, true, true, false, true, true, true, false, false, false, false] HT_ ?_
      refine on_ 4 (some 20) (bq_ 8 4) HT_ (fun K hK => ?_)
      refine goes_ Try.func50 (by kernel_rfl) rfl #[.slice A0 y474.length c0, .int .i64 a1] (by rfl) rfl rfl al_ ?_
      with_reducible refine (ih k (by omega) _ _ y474 a1 t478 _ ?side1 ?side2 A10.out).mono ?_
      (case side1 => exact kc_ (Kd.C_below HR477.out HB.out))
      (case side2 => exact HC477.out)
      rintro e w18 ⟨v479, rfl, ho0, hb⟩
      refine ⟨_, rfl, ?_⟩
      have n0_ := Aside0.mk (Kd.R_lower ho0 (below_size (be_ HB.out)))
      have n1_ := Aside0.mk (below_step (be_ HB.out) hb)
      clear HB
      have HO480 := n0_
      have HB := n1_
      clear n0_ n1_
      (try clear hb)
      (try clear hb2)
      (try clear hk)
      (try clear hi)
      (try clear ho0)
      refine hK.out _ _ trivial (fun hHeld => ?_)
      clear hK K
      refine nm_ ?_
      refine on_ 8 (some 24) (bq_ 9 3) HT_ (fun K hK => ?_)
      refine goes_ Try.func93 (by kernel_rfl) rfl #[.slice A17 y481.length c17] (by rfl) rfl rfl al_ ?_
      with_reducible refine (spec_l4Inner.calls k _ _ y481 t485 _ ?side1 ?side2 A13.out).mono ?_
      (case side1 => exact kc_ (Kd.C_below HR484.out HB.out))
      (case side2 => exact HC484.out)
      rintro e w19 ⟨rfl, hb⟩
      refine ⟨_, rfl, ?_⟩
      have n0_ := Aside0.mk (Kd.R_below (kr_ HO480.out) hb)
      have n1_ := Aside0.mk (below_step (be_ HB.out) hb)
      clear HO480
      clear HB
      have HO480 := n0_
      have HB := n1_
      clear n0_ n1_
      (try clear hb)
      (try clear hb2)
      (try clear hk)
      (try clear hi)
      refine hK.out _ _ trivial (fun hHeld => ?_)
      clear hK K
      refine nm_ ?_
      refine on_ 9 (some 25) (bq_ 10 2) HT_ (fun K hK => ?_)
      refine value_ (w1 := ?_) (v := ?_) (by rfl) rfl ?_ ?_
      rotate_left 2
      · go_simp
        constructor
        · rfl
        · rfl
      refine hK.out _ _ trivial (fun hHeld => ?_)
      clear hK K
      refine nm_ ?_
      refine on_ 10 (some 26) (bq_ 11 1) HT_ (fun K hK => ?_)
      refine Kd.R_append_step Kd.string (w0 := w) w.heap.size (by rfl) (.tmp 20) (.tmp 25) 27 9 (.string ⟨#[]⟩) 16 rfl Try.underlying27 info9 rfl (by decide) (by omega) v479 t478 t485 [.string t485] (fun _ => True) (fun _ => False) rfl rfl ?aP (fun _ hk => hk.elim) ?aF ?aO ?aB ?aS ?aL ?_
      (case aP => exact rfl)
      (case aB => exact (be_ HB.out))
      (case aF => exact (fun _ _ => trivial))
      (case aO => exact (kr_ HO480.out))
      (case aS => exact (below_size (be_ HB.out)))
      (case aL => have := LMc14.out; omega)
      intro v487 w20 ho hb hg hat
      rw [← Ny486.out] at ho
      have n0_ := Aside0.mk (hb)
      have n1_ := Aside0.mk (ho)
      clear HB
      clear HO480
      have HB := n0_
      have HO488 := n1_
      clear n0_ n1_
      clear ho hb hg hat
      refine hK.out _ _ trivial (fun hHeld => ?_)
      clear hK K
      refine nm_ ?_
      refine pu_ 11 (some 4) (bq_ 12 0) HT_ ?_
      refine done_ (done_of HT_.out (by kernel_rfl)) ?_
      try go_wp2
      go_ret
      exact ⟨_, by first | rfl | (simp [errW_none, errW_some] <;> rfl) | (simp [*, errW_none, errW_some] <;> rfl), by (with_reducible repeat (first | apply Kd.R_alloc | apply Kd.R_drewN | apply Kd.R_drew)); exact HO488.out, be_ HB.out⟩
    · rw [if_neg c7] at H
      have c7b0 : decide (a1 < t473) = false := decide_eq_false c7
      clear c7
      by_cases c21 : 0 ≤ t473
      rotate_left
      · rw [if_neg c21] at H; exact absurd H (by simp)
      rw [if_pos c21] at H
      have c21b0 := eq_true c21
      have c21b1 : decide (0 ≤ t473) = true := decide_eq_true c21
      clear c21
      by_cases c22 : t473 ≤ (l0.length : Int)
      rotate_left
      · rw [if_neg c22] at H; exact absurd H (by simp)
      rw [if_pos c22] at H
      have c22b0 := eq_true c22
      have c22b1 : decide (t473 ≤ (l0.length : Int)) = true := decide_eq_true c22
      clear c22
      obtain ⟨y489, hy489⟩ : ∃ y_ : List (S26), y_ = (l0.drop (t473 : Int).toNat) := ⟨_, rfl⟩
      replace H : ((spec_l4Path.f k y489 (wrap64 (a1 - t473))).bind fun t493 => ((spec_l4Inner.f k (l0.take (t473 : Int).toNat)).bind fun t500 => (if t493.length < 8796093022208 then (some (t493 ++ [t500])) else (none)))) = some r := by first | (rw [hy489]; with_reducible exact H) | (have H2_ := (Option.bind_some _ _).symm.trans H; rw [hy489]; with_reducible exact H2_) | (have H2_ := (Option.bind_some _ _).symm.trans H; with_reducible exact H2_) | with_reducible exact H | (rw [hy489]; exact H) | exact H
      have Ny489 := Aside0.mk hy489
      clear hy489
      replace H := Option.bind_eq_some_iff.mp H
      obtain ⟨t493, A230, H⟩ := H
      have A23 := Aside0.mk A230
      clear A230
      have c24b0 := eq_true (of_decide_eq_true (by first | (with_reducible assumption) | assumption) : 0 ≤ t473)
      have c25b0 := eq_true (of_decide_eq_true (by first | (with_reducible assumption) | assumption) : t473 ≤ (l0.length : Int))
      obtain ⟨y496, hy496⟩ : ∃ y_ : List (S26), y_ = (l0.take (t473 : Int).toNat) := ⟨_, rfl⟩
      replace H : ((spec_l4Inner.f k y496).bind fun t500 => (if t493.length < 8796093022208 then (some (t493 ++ [t500])) else (none))) = some r := by first | (rw [hy496]; with_reducible exact H) | (have H2_ := (Option.bind_some _ _).symm.trans H; rw [hy496]; with_reducible exact H2_) | (have H2_ := (Option.bind_some _ _).symm.trans H; with_reducible exact H2_) | with_reducible exact H | (rw [hy496]; exact H) | exact H
      have Ny496 := Aside0.mk hy496
      clear hy496
      replace H := Option.bind_eq_some_iff.mp H
      obtain ⟨t500, A260, H⟩ := H
      have A26 := Aside0.mk A260
      clear A260
      by_cases c27 : t493.length < 8796093022208
      rotate_left
      · rw [if_neg c27] at H; exact absurd H (by simp)
      rw [if_pos c27] at H
      have LMc27 := Aside0.mk c27
      clear c27
      obtain ⟨y501, hy501⟩ : ∃ y_ : List ByteArray, y_ = (t493 ++ [t500]) := ⟨_, rfl⟩
      replace H : (some y501) = some r := by first | (rw [hy501]; with_reducible exact H) | (have H2_ := (Option.bind_some _ _).symm.trans H; rw [hy501]; with_reducible exact H2_) | (have H2_ := (Option.bind_some _ _).symm.trans H; with_reducible exact H2_) | with_reducible exact H | (rw [hy501]; exact H) | exact H
      have Ny501 := Aside0.mk hy501
      clear hy501
      obtain rfl := Option.some.inj H
      go_enter Try.func50, Try.ntmps50
      try go_wp2_with (first | ((with_reducible refine gate_callee (f := 92) rfl ?_); refine goesL_ (some 12) rfl rfl Try.func92 (by kernel_rfl) rfl #[.int .i64 (l0.length : Int)] rfl al_ ?_; (with_reducible refine (spec_l4Half.calls k (l0.length : Int) t473 _ A6.out).mono ?_); rintro e w' ⟨rfl, ⟨nd, rfl⟩⟩; refine ⟨_, rfl, ?_⟩))
      have n0_ := Aside0.mk (below_drew1 (pw_below_drewN HB.out nd))
      clear HB
      have HB := n0_
      clear n0_
      have q29 : (t473 : Int) ≤ ((l0.length : Int) : Int) := of_decide_eq_true (by first | (with_reducible assumption) | assumption)
      obtain ⟨i029, hi029, _, hsz29, _⟩ := info_parts info26
      have hroom29 : l0.length ≤ c0 := HC0.out
      have hC29 : Kd.C k26 _ A0 l0.length l0 := HR0.out
      have q029 : (0 : Int) ≤ (t473 : Int) := of_decide_eq_true (by first | (with_reducible assumption) | assumption)
      have hcut29 := cut_from (P := Try.prog) 24 26 .i64 Try.underlying24 hi029 2 hsz29 A0 l0.length c0 t473 q029 q29
      have hr29 := Kd.C_drop (m := (t473 : Int).toNat) (c := c0) hC29 (by omega) hroom29
      obtain ⟨A29, hA29⟩ : ∃ A1, A1 = (if c0 = (t473 : Int).toNat then A0 else (A0 : Option Addr).map (·.add ((t473 : Int).toNat * 2))) := ⟨_, rfl⟩
      obtain ⟨c29, hc29⟩ : ∃ c1, c1 = c0 - (t473 : Int).toNat := ⟨_, rfl⟩
      have hy29 : y489.length = l0.length - (t473 : Int).toNat := (by rw [Ny489.out, List.length_drop] <;> omega)
      rw [show (l0).drop (t473 : Int).toNat = y489 from Ny489.out.symm] at hr29
      replace hr29 : Kd.C k26 _ A29 y489.length y489 := (by rw [hA29]; exact hr29)
      rw [← hy29, ← hA29, ← hc29] at hcut29
      have HR492 := Aside0.mk hr29
      have HC492 := Aside0.mk (show y489.length ≤ c29 from by rw [hy29, hc29]; exact Nat.sub_le_sub_right hroom29 _)
      clear hr29 hC29 hroom29 hi029 hsz29 hc29
      have KY29 := Aside0.mk hy29
      have KA29 := Aside0.mk hA29
      clear hy29 hA29
      replace q29 := eq_true q29
      have q30 : (t473 : Int) ≤ ((l0.length : Int) : Int) := of_decide_eq_true (by first | (with_reducible assumption) | assumption)
      obtain ⟨i030, hi030, _, hsz30, _⟩ := info_parts info26
      have hroom30 : l0.length ≤ c0 := HC0.out
      have hC30 : Kd.C k26 _ A0 l0.length l0 := HR0.out
      have hcut30 := cut_to (P := Try.prog) 24 26 .i64 Try.underlying24 hi030 A0 l0.length c0 t473 (of_decide_eq_true (by first | (with_reducible assumption) | assumption)) q30 hroom30
      have hr30 := Kd.C_take (m := (t473 : Int).toNat) hC30 (by omega)
      have hy30 : y496.length = (t473 : Int).toNat := (by rw [Ny496.out, List.length_take]; omega)
      rw [← Ny496.out] at hr30
      rw [← hy30] at hcut30
      have HR499 := Aside0.mk hr30
      have HC499 := Aside0.mk (show y496.length ≤ c0 from by omega)
      clear hr30 hC30 hroom30 hi030 hsz30
      have KY30 := Aside0.mk hy30
      clear hy30
      replace q30 := eq_true q30
      refine start_ (n := 14) (S := fun w' => True) (ds := []) (bq_ 0 14) (by kernel_rfl) rfl rfl trivial (fun hHeld => ?_); refine with_tabW spec_l4Path.tab6 spec_l4Path.bits6 (fun HT_ HW_ => ?_)
      generalize (World.drewN w nd).drew = w28 at HB HR492 HR499 hHeld ⊢
      refine pu_ 0 (some 27) (bq_ 1 13) HT_ ?_
      refine pu_ 1 (some 28) (bq_ 2 12) HT_ ?_
      refine pu_ 2 (some 29) (bq_ 3 11) HT_ ?_
      refine pu_ 3 (some 30) (bq_ 4 10) HT_ ?_
      refine pu_ 4 (some 31) (bq_ 5 9) HT_ ?_
      refine pu_ 5 (some 32) (bq_ 6 8) HT_ ?_
      refine pu_ 7 (some 34) #[true, true, true, true, true, true, false, true, false, false, false, false, false, false] HT_ ?_
      refine pu_ 8 (some 35) #[true, true, true, true, true, true, false, true, true, false, false, false, false, false] HT_ ?_
      refine pu_ 9 (some 36) #[true, true, true, true, true, true, false, true, true, true, false, false, false, false] HT_ ?_
      refine on_ 6 (some 33) (bq_ 10 4) HT_ (fun K hK => ?_)
      refine goes_ Try.func50 (by kernel_rfl) rfl #[.slice A29 y489.length c29, .int .i64 (wrap64 (a1 - t473))] (by rfl) rfl rfl al_ ?_
      with_reducible refine (ih k (by omega) _ _ y489 (wrap64 (a1 - t473)) t493 _ ?side1 ?side2 A23.out).mono ?_
      (case side1 => exact kc_ (Kd.C_below HR492.out HB.out))
      (case side2 => exact HC492.out)
      rintro e w31 ⟨v494, rfl, ho0, hb⟩
      refine ⟨_, rfl, ?_⟩
      have n0_ := Aside0.mk (Kd.R_lower ho0 (below_size (be_ HB.out)))
      have n1_ := Aside0.mk (below_step (be_ HB.out) hb)
      clear HB
      have HO495 := n0_
      have HB := n1_
      clear n0_ n1_
      (try clear hb)
      (try clear hb2)
      (try clear hk)
      (try clear hi)
      (try clear ho0)
      refine hK.out _ _ trivial (fun hHeld => ?_)
      clear hK K
      refine nm_ ?_
      refine on_ 10 (some 37) (bq_ 11 3) HT_ (fun K hK => ?_)
      refine goes_ Try.func93 (by kernel_rfl) rfl #[.slice A0 y496.length c0] (by rfl) rfl rfl al_ ?_
      with_reducible refine (spec_l4Inner.calls k _ _ y496 t500 _ ?side1 ?side2 A26.out).mono ?_
      (case side1 => exact kc_ (Kd.C_below HR499.out HB.out))
      (case side2 => exact HC499.out)
      rintro e w32 ⟨rfl, hb⟩
      refine ⟨_, rfl, ?_⟩
      have n0_ := Aside0.mk (Kd.R_below (kr_ HO495.out) hb)
      have n1_ := Aside0.mk (below_step (be_ HB.out) hb)
      clear HO495
      clear HB
      have HO495 := n0_
      have HB := n1_
      clear n0_ n1_
      (try clear hb)
      (try clear hb2)
      (try clear hk)
      (try clear hi)
      refine hK.out _ _ trivial (fun hHeld => ?_)
      clear hK K
      refine nm_ ?_
      refine on_ 11 (some 38) (bq_ 12 2) HT_ (fun K hK => ?_)
      refine value_ (w1 := ?_) (v := ?_) (by rfl) rfl ?_ ?_
      rotate_left 2
      · go_simp
        constructor
        · rfl
        · rfl
      refine hK.out _ _ trivial (fun hHeld => ?_)
      clear hK K
      refine nm_ ?_
      refine on_ 12 (some 39) (bq_ 13 1) HT_ (fun K hK => ?_)
      refine Kd.R_append_step Kd.string (w0 := w) w.heap.size (by rfl) (.tmp 33) (.tmp 38) 27 9 (.string ⟨#[]⟩) 16 rfl Try.underlying27 info9 rfl (by decide) (by omega) v494 t493 t500 [.string t500] (fun _ => True) (fun _ => False) rfl rfl ?aP (fun _ hk => hk.elim) ?aF ?aO ?aB ?aS ?aL ?_
      (case aP => exact rfl)
      (case aB => exact (be_ HB.out))
      (case aF => exact (fun _ _ => trivial))
      (case aO => exact (kr_ HO495.out))
      (case aS => exact (below_size (be_ HB.out)))
      (case aL => have := LMc27.out; omega)
      intro v502 w33 ho hb hg hat
      rw [← Ny501.out] at ho
      have n0_ := Aside0.mk (hb)
      have n1_ := Aside0.mk (ho)
      clear HB
      clear HO495
      have HB := n0_
      have HO503 := n1_
      clear n0_ n1_
      clear ho hb hg hat
      refine hK.out _ _ trivial (fun hHeld => ?_)
      clear hK K
      refine nm_ ?_
      refine pu_ 13 (some 4) (bq_ 14 0) HT_ ?_
      refine done_ (done_of HT_.out (by kernel_rfl)) ?_
      try go_wp2
      go_ret
      exact ⟨_, by first | rfl | (simp [errW_none, errW_some] <;> rfl) | (simp [*, errW_none, errW_some] <;> rfl), by (with_reducible repeat (first | apply Kd.R_alloc | apply Kd.R_drewN | apply Kd.R_drew)); exact HO503.out, be_ HB.out⟩

/-! ###  spec_l4Hashed: function 103 -/
mutual
def spec_l4Hashed.j0 : Nat → List Int → Int → List ByteArray → ByteArray → Int → Int → Int → Option (List ByteArray × Bool)
  | 0, _, _, _, _, _, _, _ => none
  | k + 1, x0, x1, x3, x10, x11, x12, x13 => if 0 ≤ (wrap64 ((x3.length : Int) - 1)) then (if (wrap64 ((x3.length : Int) - 1)) ≤ (x3.length : Int) then ((spec_l4Hashed.f k x0 x13 x12 (x3.take ((wrap64 ((x3.length : Int) - 1)) : Int).toNat)).bind fun bt513 => (if bt513.2 = true then (if 0 ≤ (wrap64 ((bt513.1.length : Int) - 1)) then (if (wrap64 ((bt513.1.length : Int) - 1)) < (bt513.1.length : Int) then (if (rdOf ByteArray.empty bt513.1 (wrap64 ((bt513.1.length : Int) - 1))).size ≤ 9223372036854775807 then ((spec_Digest.f k (bytesOf (rdOf ByteArray.empty bt513.1 (wrap64 ((bt513.1.length : Int) - 1))))).bind fun t525 => (if x1 < x11 then ((spec_l4Node.f t525 x10).bind fun t526 => (if bt513.1.length < 8796093022208 then (some ((bt513.1 ++ [strOfNums t526]), true)) else (none))) else ((spec_l4Node.f x10 t525).bind fun t532 => (if bt513.1.length < 8796093022208 then (some ((bt513.1 ++ [strOfNums t532]), true)) else (none))))) else (none)) else (none)) else (none)) else (some ((([] : List ByteArray)), false)))) else (none)) else (none)
def spec_l4Hashed.f : Nat → List Int → Int → Int → List ByteArray → Option (List ByteArray × Bool)
  | 0, _, _, _, _ => none
  | k + 1, l0, a1, a2, l3 => if a2 < 2 then (some ((([strOfNums l0] : List ByteArray)), ((l3.length : Int) == 0))) else (if (l3.length : Int) = 0 then (some ((([] : List ByteArray)), false)) else (if 0 ≤ (wrap64 ((l3.length : Int) - 1)) then (if (wrap64 ((l3.length : Int) - 1)) < (l3.length : Int) then ((spec_l4Half.f k a2).bind fun t511 => (if a1 ≥ t511 then (spec_l4Hashed.j0 k l0 a1 l3 (rdOf ByteArray.empty l3 (wrap64 ((l3.length : Int) - 1))) t511 (wrap64 (a2 - t511)) (wrap64 (a1 - t511))) else (spec_l4Hashed.j0 k l0 a1 l3 (rdOf ByteArray.empty l3 (wrap64 ((l3.length : Int) - 1))) t511 t511 a1))) else (none)) else (none)))
end
set_option maxHeartbeats 8000000 in
set_option maxRecDepth 100000 in
theorem spec_l4Hashed.calls (k : Nat) : ∀ (A0 : Option Addr) (c0 : Nat) (l0 : List Int) (a1 : Int) (a2 : Int) (A3 : Option Addr) (c3 : Nat) (l3 : List ByteArray) (r1 : List ByteArray) (r2 : Bool) (w : World) (hr0 : Kd.C (Kd.int .u8) w A0 l0.length l0) (hc0 : l0.length ≤ c0) (hr3 : Kd.C Kd.string w A3 l3.length l3) (hc3 : l3.length ≤ c3) (h : spec_l4Hashed.f k l0 a1 a2 l3 = some (r1, r2)),
  Calls Try.prog 103 #[.slice A0 l0.length c0, .int .i64 a1, .int .i64 a2, .slice A3 l3.length c3] w fun e w' => ∃ v0_ : Value, e = .returned (.tuple #[v0_, .bool r2]) ∧ Kd.R Kd.string 9 w' w.heap.size (fun _ => True) v0_ r1 ∧ Below w.heap.size w w' := by
  induction k using Nat.strongRecOn with
  | _ k ih =>
  intro A0 c0 l0 a1 a2 A3 c3 l3 r1 r2 w hr0 hc0 hr3 hc3 h
  cases k with
  | zero => exact absurd h (by simp [spec_l4Hashed.f])
  | succ k =>
  simp only [spec_l4Hashed.f] at h
  have HR0 := Aside0.mk hr0
  have HC0 := Aside0.mk hc0
  clear hr0 hc0
  have HR3 := Aside0.mk hr3
  have HC3 := Aside0.mk hc3
  clear hr3 hc3
  have HB := Aside0.mk (Below.refl w.heap.size w)
  have H : (if a2 < 2 then (some ((([strOfNums l0] : List ByteArray)), ((l3.length : Int) == 0))) else (if (l3.length : Int) = 0 then (some ((([] : List ByteArray)), false)) else (if 0 ≤ (wrap64 ((l3.length : Int) - 1)) then (if (wrap64 ((l3.length : Int) - 1)) < (l3.length : Int) then ((spec_l4Half.f k a2).bind fun t511 => (if a1 ≥ t511 then (spec_l4Hashed.j0 k l0 a1 l3 (rdOf ByteArray.empty l3 (wrap64 ((l3.length : Int) - 1))) t511 (wrap64 (a2 - t511)) (wrap64 (a1 - t511))) else (spec_l4Hashed.j0 k l0 a1 l3 (rdOf ByteArray.empty l3 (wrap64 ((l3.length : Int) - 1))) t511 t511 a1))) else (none)) else (none)))) = some (r1, r2) := h
  clear h
  by_cases c5 : a2 < 2
  · rw [if_pos c5] at H
    have c5b0 : decide (a2 < 2) = true := decide_eq_true c5
    clear c5
    obtain ⟨y504, hy504⟩ : ∃ y_ : List ByteArray, y_ = (([strOfNums l0] : List ByteArray)) := ⟨_, rfl⟩
    replace H : (some (y504, ((l3.length : Int) == 0))) = some (r1, r2) := by first | (rw [hy504]; with_reducible exact H) | (have H2_ := (Option.bind_some _ _).symm.trans H; rw [hy504]; with_reducible exact H2_) | (have H2_ := (Option.bind_some _ _).symm.trans H; with_reducible exact H2_) | with_reducible exact H | (rw [hy504]; exact H) | exact H
    have Ny504 := Aside0.mk hy504
    clear hy504
    simp only [Option.some.injEq, Prod.mk.injEq] at H
    obtain ⟨rfl, rfl⟩ := H
    have hcv6 := Kd.C_string (P := Try.prog) (A := A0) (c := c0) Try.underlying22 Try.underlying5 Try.underlying9 HR0.out
    have hcv7d := fun n_ => Kd.C_string (P := Try.prog) (A := A0) (c := c0) Try.underlying22 Try.underlying5 Try.underlying9 (Kd.C_drewN HR0.out n_)
    go_enter Try.func103, Try.ntmps103
    go_wp2_with (first | ((with_reducible refine gate_dst (N := 21) rfl ?_); refine Kd.R_lit Kd.string _ 9 ?hg (N := 21) ?hd (xs := ([strOfNums l0] : List ByteArray)) (inner := [.string (strOfNums l0)]) (ok := fun _ => True) (okp := fun _ => True) ?hr ?hp (fun _ hk => hk) trivial (Below.refl _ _) (Nat.le_refl _) (by simp) ?_; (case hd => rfl); (case hg => rfl); (case hr => first | (go_simp; done) | (go_simp; rfl)); (case hp => exact (Reps.one (show Kd.M Kd.string _ _ _ (strOfNums l0) [.string (strOfNums l0)] from rfl) (Reps.none _ _))); intro v505 w8 ho9 hb hg_ hnew_; clear hg_ hnew_; (first | rw [← Ny504.out] at ho9 | (simp only [Int.reduceToNat] at ho9; rw [← Ny504.out] at ho9)); have n0_ := Aside0.mk (Kd.R_lower ho9 (below_size (be_ HB.out))); have n1_ := Aside0.mk (below_step (be_ HB.out) hb); clear HB; have HO506 := n0_; have HB := n1_; clear n0_ n1_; clear hb ho9))
    go_ret2
    exact ⟨_, by first | rfl | (simp [errW_none, errW_some] <;> rfl) | (simp [*, errW_none, errW_some] <;> rfl), by (with_reducible repeat (first | apply Kd.R_alloc | apply Kd.R_drewN | apply Kd.R_drew)); exact HO506.out, be_ HB.out⟩
  · rw [if_neg c5] at H
    have c5b0 : decide (a2 < 2) = false := decide_eq_false c5
    clear c5
    by_cases c10 : (l3.length : Int) = 0
    · rw [if_pos c10] at H
      have c10b0 : ((l3.length : Int) == 0) = true := beq_iff_eq.mpr c10
      have c10b1 : ((l3.length : Int) != 0) = false := bne_eq_false_iff_eq.mpr c10
      clear c10
      obtain ⟨y507, hy507⟩ : ∃ y_ : List ByteArray, y_ = (([] : List ByteArray)) := ⟨_, rfl⟩
      replace H : (some (y507, false)) = some (r1, r2) := by first | (rw [hy507]; with_reducible exact H) | (have H2_ := (Option.bind_some _ _).symm.trans H; rw [hy507]; with_reducible exact H2_) | (have H2_ := (Option.bind_some _ _).symm.trans H; with_reducible exact H2_) | with_reducible exact H | (rw [hy507]; exact H) | exact H
      have Ny507 := Aside0.mk hy507
      clear hy507
      simp only [Option.some.injEq, Prod.mk.injEq] at H
      obtain ⟨rfl, rfl⟩ := H
      go_enter Try.func103, Try.ntmps103
      go_wp2_with (first | ((with_reducible refine gate_dst (N := 28) rfl ?_); refine Kd.R_lit Kd.string _ 9 ?hg (N := 28) ?hd (xs := ([] : List ByteArray)) (inner := []) (ok := fun _ => True) (okp := fun _ => True) ?hr ?hp (fun _ hk => hk) trivial (Below.refl _ _) (Nat.le_refl _) (by simp) ?_; (case hd => rfl); (case hg => rfl); (case hr => first | (go_simp; done) | (go_simp; rfl)); (case hp => exact (Reps.none _ _)); intro v508 w11 ho12 hb hg_ hnew_; clear hg_ hnew_; (first | rw [← Ny507.out] at ho12 | (simp only [Int.reduceToNat] at ho12; rw [← Ny507.out] at ho12)); have n0_ := Aside0.mk (Kd.R_lower ho12 (below_size (be_ HB.out))); have n1_ := Aside0.mk (below_step (be_ HB.out) hb); clear HB; have HO509 := n0_; have HB := n1_; clear n0_ n1_; clear hb ho12))
      go_ret2
      exact ⟨_, by first | rfl | (simp [errW_none, errW_some] <;> rfl) | (simp [*, errW_none, errW_some] <;> rfl), by (with_reducible repeat (first | apply Kd.R_alloc | apply Kd.R_drewN | apply Kd.R_drew)); exact HO509.out, be_ HB.out⟩
    · rw [if_neg c10] at H
      have c10b0 : ((l3.length : Int) == 0) = false := beq_eq_false_iff_ne.mpr c10
      have c10b1 : ((l3.length : Int) != 0) = true := bne_iff_ne.mpr c10
      have c10b2 : ¬ (l3 = []) := fun h_ => c10 (by rw [h_]; rfl)
      obtain ⟨ji13, hji13⟩ : ∃ j_ : Int, (wrap64 ((l3.length : Int) - 1)) = j_ := ⟨_, rfl⟩
      replace H : (if 0 ≤ (ji13) then (if (ji13) < (l3.length : Int) then ((spec_l4Half.f k a2).bind fun t511 => (if a1 ≥ t511 then (spec_l4Hashed.j0 k l0 a1 l3 (rdOf ByteArray.empty l3 (ji13)) t511 (wrap64 (a2 - t511)) (wrap64 (a1 - t511))) else (spec_l4Hashed.j0 k l0 a1 l3 (rdOf ByteArray.empty l3 (ji13)) t511 t511 a1))) else (none)) else (none)) = some (r1, r2) := by first | (rw [hji13] at H; exact H) | (simp only [hji13] at H ⊢; exact H)
      have hji13w : (IntKind.i64.wrap ((l3.length : Int) - 1)) = ji13 := (i64_w _).trans hji13
      by_cases c14 : 0 ≤ (ji13)
      rotate_left
      · rw [if_neg c14] at H; exact absurd H (by simp)
      rw [if_pos c14] at H
      have c14b0 : decide (0 ≤ (ji13)) = true := decide_eq_true c14
      clear c14
      by_cases c15 : (ji13) < (l3.length : Int)
      rotate_left
      · rw [if_neg c15] at H; exact absurd H (by simp)
      rw [if_pos c15] at H
      have c15b0 : decide ((ji13) < (l3.length : Int)) = true := decide_eq_true c15
      clear c15
      replace H := Option.bind_eq_some_iff.mp H
      obtain ⟨t511, A160, H⟩ := H
      have A16 := Aside0.mk A160
      clear A160
      have HC17 := Aside0.mk H
      clear H
      have p510 : 0 ≤ ((ji13) : Int) := of_decide_eq_true (by first | (with_reducible assumption) | assumption)
      have q510 : (ji13) < (l3.length : Int) := of_decide_eq_true (by first | (with_reducible assumption) | assumption)
      obtain ⟨ad510, e510, hx510_0⟩ := Kd.at_string HR3.out (ji13) p510 q510
      cases e510
      replace p510 := eq_true p510
      replace q510 := eq_true q510
      go_enter Try.func103, Try.ntmps103
      go_upto_if 41 with (first | ((with_reducible refine gate_callee (f := 92) rfl ?_); refine goesL_ (some 36) rfl rfl Try.func92 (by kernel_rfl) rfl #[.int .i64 a2] rfl al_ ?_; (with_reducible refine (spec_l4Half.calls k a2 t511 _ A16.out).mono ?_); rintro e w' ⟨rfl, ⟨nd, rfl⟩⟩; refine ⟨_, rfl, ?_⟩))
      (try simp only [Act.put, sa_, sz_, ss_])
      go_cut [12, 13] (fun v12 v13 wc => ∃ (kq : Nat) (x12_16 : Int) (x13_16 : Int), v12 = .int .i64 x12_16 ∧ v13 = .int .i64 x13_16 ∧ Aside0 (spec_l4Hashed.j0 kq l0 a1 l3 (rdOf ByteArray.empty l3 (ji13)) t511 x12_16 x13_16 = some (r1, r2)) ∧ Aside0 (kq ≤ k) ∧ Aside0 (Below w.heap.size w wc))
      case first =>
       have H := HC17.out
       clear HC17
       by_cases c18 : a1 ≥ t511
       · rw [if_pos c18] at H
         have c18b0 : decide (t511 ≤ a1) = true := decide_eq_true c18
         clear c18
         (first | rw [c18b0] | (simp only [i64_w, i32_w]; rw [c18b0]) | skip)
         have H' := Aside0.mk H
         clear H
         go_wp2
         go_meet
         case rel => exact ⟨_, (wrap64 (a2 - t511)), (wrap64 (a1 - t511)), (by first | rfl | (simp; done) | (simp [*]; done)), (by first | rfl | (simp; done) | (simp [*]; done)), H', ⟨by first | omega | exact Nat.le_refl _⟩, ⟨be_ HB.out⟩⟩
       · rw [if_neg c18] at H
         have c18b0 : decide (t511 ≤ a1) = false := decide_eq_false c18
         clear c18
         (first | rw [c18b0] | (simp only [i64_w, i32_w]; rw [c18b0]) | skip)
         have H' := Aside0.mk H
         clear H
         go_wp2
         go_meet
         case rel => exact ⟨_, (t511), (a1), (by first | rfl | (simp; done) | (simp [*]; done)), (by first | rfl | (simp; done) | (simp [*]; done)), H', ⟨by first | omega | exact Nat.le_refl _⟩, ⟨be_ HB.out⟩⟩
      case rest =>
       clear HC17
       try clear c1
       try clear p2
       try clear c3
       try clear c5
       try clear c5b0
       try clear p5
       try clear q5
       try clear hx5
       try clear p6
       try clear hcv6
       try clear hcv7
       try clear c9
       try clear c10
       try clear c10b0
       try clear c10b1
       try clear c10b2
       try clear c14
       try clear c14b0
       try clear c15
       try clear c15b0
       try clear c18
       try clear c18b0
       try clear hx510_0
       try clear p510
       try clear q510
       obtain ⟨kq, x12_16, x13_16, rfl, rfl, HA, HJ16, HB⟩ := hcut
       cases kq with
       | zero => exact absurd HA.out (by simp [spec_l4Hashed.j0])
       | succ kj16 =>
        have H := HA.out
        clear HA
        simp only [spec_l4Hashed.j0] at H
        obtain ⟨ji19, hji19⟩ : ∃ j_ : Int, (wrap64 ((l3.length : Int) - 1)) = j_ := ⟨_, rfl⟩
        (try clear hji13w); (try clear hji13)
        replace H : (if 0 ≤ (ji19) then (if (ji19) ≤ (l3.length : Int) then ((spec_l4Hashed.f kj16 l0 x13_16 x12_16 (l3.take ((ji19) : Int).toNat)).bind fun bt513 => (if bt513.2 = true then (if 0 ≤ (wrap64 ((bt513.1.length : Int) - 1)) then (if (wrap64 ((bt513.1.length : Int) - 1)) < (bt513.1.length : Int) then (if (rdOf ByteArray.empty bt513.1 (wrap64 ((bt513.1.length : Int) - 1))).size ≤ 9223372036854775807 then ((spec_Digest.f kj16 (bytesOf (rdOf ByteArray.empty bt513.1 (wrap64 ((bt513.1.length : Int) - 1))))).bind fun t525 => (if a1 < t511 then ((spec_l4Node.f t525 (rdOf ByteArray.empty l3 (ji13))).bind fun t526 => (if bt513.1.length < 8796093022208 then (some ((bt513.1 ++ [strOfNums t526]), true)) else (none))) else ((spec_l4Node.f (rdOf ByteArray.empty l3 (ji13)) t525).bind fun t532 => (if bt513.1.length < 8796093022208 then (some ((bt513.1 ++ [strOfNums t532]), true)) else (none))))) else (none)) else (none)) else (none)) else (some ((([] : List ByteArray)), false)))) else (none)) else (none)) = some (r1, r2) := by first | (rw [hji19] at H; exact H) | (simp only [hji19] at H ⊢; exact H)
        have hji19w : (IntKind.i64.wrap ((l3.length : Int) - 1)) = ji19 := (i64_w _).trans hji19
        by_cases c20 : 0 ≤ (ji19)
        rotate_left
        · rw [if_neg c20] at H; exact absurd H (by simp)
        rw [if_pos c20] at H
        have c20b0 := eq_true c20
        have c20b1 : decide (0 ≤ (ji19)) = true := decide_eq_true c20
        clear c20
        by_cases c21 : (ji19) ≤ (l3.length : Int)
        rotate_left
        · rw [if_neg c21] at H; exact absurd H (by simp)
        rw [if_pos c21] at H
        have c21b0 := eq_true c21
        have c21b1 : decide ((ji19) ≤ (l3.length : Int)) = true := decide_eq_true c21
        clear c21
        replace H := Option.bind_eq_some_iff.mp H
        obtain ⟨⟨t513, t514⟩, A220, H⟩ := H; try dsimp only at H
        have A22 := Aside0.mk A220
        clear A220
        by_cases c23 : t514 = true
        · subst c23
          have H1 : (if 0 ≤ (wrap64 ((t513.length : Int) - 1)) then (if (wrap64 ((t513.length : Int) - 1)) < (t513.length : Int) then (if (rdOf ByteArray.empty t513 (wrap64 ((t513.length : Int) - 1))).size ≤ 9223372036854775807 then ((spec_Digest.f kj16 (bytesOf (rdOf ByteArray.empty t513 (wrap64 ((t513.length : Int) - 1))))).bind fun t525 => (if a1 < t511 then ((spec_l4Node.f t525 (rdOf ByteArray.empty l3 (ji13))).bind fun t526 => (if t513.length < 8796093022208 then (some ((t513 ++ [strOfNums t526]), true)) else (none))) else ((spec_l4Node.f (rdOf ByteArray.empty l3 (ji13)) t525).bind fun t532 => (if t513.length < 8796093022208 then (some ((t513 ++ [strOfNums t532]), true)) else (none))))) else (none)) else (none)) else (none)) = some (r1, r2) := by rw [if_pos rfl] at H; exact H
          clear H
          have H := H1
          clear H1
          obtain ⟨ji24, hji24⟩ : ∃ j_ : Int, (wrap64 ((t513.length : Int) - 1)) = j_ := ⟨_, rfl⟩
          replace H : (if 0 ≤ (ji24) then (if (ji24) < (t513.length : Int) then (if (rdOf ByteArray.empty t513 (ji24)).size ≤ 9223372036854775807 then ((spec_Digest.f kj16 (bytesOf (rdOf ByteArray.empty t513 (ji24)))).bind fun t525 => (if a1 < t511 then ((spec_l4Node.f t525 (rdOf ByteArray.empty l3 (ji13))).bind fun t526 => (if t513.length < 8796093022208 then (some ((t513 ++ [strOfNums t526]), true)) else (none))) else ((spec_l4Node.f (rdOf ByteArray.empty l3 (ji13)) t525).bind fun t532 => (if t513.length < 8796093022208 then (some ((t513 ++ [strOfNums t532]), true)) else (none))))) else (none)) else (none)) else (none)) = some (r1, r2) := by first | (rw [hji24] at H; exact H) | (simp only [hji24] at H ⊢; exact H)
          (try rw [hji24] at A22)
          have hji24w : (IntKind.i64.wrap ((t513.length : Int) - 1)) = ji24 := (i64_w _).trans hji24
          by_cases c25 : 0 ≤ (ji24)
          rotate_left
          · rw [if_neg c25] at H; exact absurd H (by simp)
          rw [if_pos c25] at H
          have c25b0 : decide (0 ≤ (ji24)) = true := decide_eq_true c25
          clear c25
          by_cases c26 : (ji24) < (t513.length : Int)
          rotate_left
          · rw [if_neg c26] at H; exact absurd H (by simp)
          rw [if_pos c26] at H
          have c26b0 : decide ((ji24) < (t513.length : Int)) = true := decide_eq_true c26
          clear c26
          by_cases c27 : (rdOf ByteArray.empty t513 (ji24)).size ≤ 9223372036854775807
          rotate_left
          · rw [if_neg c27] at H; exact absurd H (by simp)
          rw [if_pos c27] at H
          have c27b0 := eq_true c27
          have c27b1 : decide ((rdOf ByteArray.empty t513 (ji24)).size ≤ 9223372036854775807) = true := decide_eq_true c27
          try have c27b2 : (9223372036854775807 < (rdOf ByteArray.empty t513 (ji24)).size) = False := eq_false (Nat.not_lt.2 c27)
          clear c27
          obtain ⟨y521, hy521⟩ : ∃ y_ : List Int, y_ = (bytesOf (rdOf ByteArray.empty t513 (ji24))) := ⟨_, rfl⟩
          replace H : ((spec_Digest.f kj16 y521).bind fun t525 => (if a1 < t511 then ((spec_l4Node.f t525 (rdOf ByteArray.empty l3 (ji13))).bind fun t526 => (if t513.length < 8796093022208 then (some ((t513 ++ [strOfNums t526]), true)) else (none))) else ((spec_l4Node.f (rdOf ByteArray.empty l3 (ji13)) t525).bind fun t532 => (if t513.length < 8796093022208 then (some ((t513 ++ [strOfNums t532]), true)) else (none))))) = some (r1, r2) := by first | (rw [hy521]; with_reducible exact H) | (have H2_ := (Option.bind_some _ _).symm.trans H; rw [hy521]; with_reducible exact H2_) | (have H2_ := (Option.bind_some _ _).symm.trans H; with_reducible exact H2_) | with_reducible exact H | (rw [hy521]; exact H) | exact H
          have Ny521 := Aside0.mk hy521
          clear hy521
          replace H := Option.bind_eq_some_iff.mp H
          obtain ⟨t525, A280, H⟩ := H
          have A28 := Aside0.mk A280
          clear A280
          by_cases c29 : a1 < t511
          · rw [if_pos c29] at H
            have c29b0 : decide (a1 < t511) = true := decide_eq_true c29
            clear c29
            replace H := Option.bind_eq_some_iff.mp H
            obtain ⟨t526, A300, H⟩ := H
            have A30 := Aside0.mk A300
            clear A300
            by_cases c31 : t513.length < 8796093022208
            rotate_left
            · rw [if_neg c31] at H; exact absurd H (by simp)
            rw [if_pos c31] at H
            have LMc31 := Aside0.mk c31
            clear c31
            obtain ⟨y529, hy529⟩ : ∃ y_ : List ByteArray, y_ = (t513 ++ [strOfNums t526]) := ⟨_, rfl⟩
            replace H : (some (y529, true)) = some (r1, r2) := by first | (rw [hy529]; with_reducible exact H) | (have H2_ := (Option.bind_some _ _).symm.trans H; rw [hy529]; with_reducible exact H2_) | (have H2_ := (Option.bind_some _ _).symm.trans H; with_reducible exact H2_) | with_reducible exact H | (rw [hy529]; exact H) | exact H
            have Ny529 := Aside0.mk hy529
            clear hy529
            simp only [Option.some.injEq, Prod.mk.injEq] at H
            obtain ⟨rfl, rfl⟩ := H
            obtain ⟨i032, hi032, _, hsz32, _⟩ := info_parts info9
            obtain ⟨hcut32, hA32, hC32⟩ := print_take_of (P := Try.prog) Value.string (⟨#[]⟩ : ByteArray) 27 9 .i64 Try.underlying27 hi032 hsz32 (some ad510) c3 l3 (ji19) (of_decide_eq_true (by first | (with_reducible assumption) | assumption)) (of_decide_eq_true (by first | (with_reducible assumption) | assumption)) HC3.out
            have HR512 := Aside0.mk (Kd.C_of_reads (h1 := fun _ => rfl) (hA32 _ (Kd.reads_of_C HR3.out)))
            have HC512 := Aside0.mk hC32
            clear hA32 hC32 hi032 hsz32
            go_wp2_with (first | ((with_reducible refine gate_callee (f := 103) rfl ?_); refine goesL_ (some 57) rfl rfl Try.func103 (by kernel_rfl) rfl #[.slice A0 l0.length c0, .int .i64 x13_16, .int .i64 x12_16, .slice (some ad510) (l3.take ((ji19) : Int).toNat).length c3] rfl (by (try simp only [List.map_toArray, List.map_cons, List.map_nil]); first | done | (rw [show (l3.take ((ji19) : Int).toNat).length = (ji19).toNat from (by rw [List.length_take]; have h_ : ((ji19) : Int) ≤ (l3.length : Int) := of_decide_eq_true (by first | (with_reducible assumption) | assumption); omega)] <;> rfl) | (simp only [hji19]; rfl) | rfl | (simp only [List.length_drop, List.length_take]; rfl)) ?_; (with_reducible refine (ih kj16 (by have := HJ16.out; omega) _ _ l0 x13_16 x12_16 _ _ (l3.take ((ji19) : Int).toNat) t513 true _ ?side1 ?side2 ?side3 ?side4 A22.out).mono ?_); (case side1 => exact kc_ (Kd.C_below HR0.out HB.out)); (case side2 => exact HC0.out); (case side3 => exact kc_ (Kd.C_below HR512.out HB.out)); (case side4 => exact HC512.out); rintro e w33 ⟨v515, rfl, ho0, hb⟩; refine ⟨_, rfl, ?_⟩; have n0_ := Aside0.mk (Kd.R_lower ho0 (below_size (be_ HB.out))); have n1_ := Aside0.mk (below_step (be_ HB.out) hb); clear HB; have HO516 := n0_; have HB := n1_; clear n0_ n1_; (try clear hb); (try clear hb2); (try clear hk); (try clear hi); (try clear ho0); obtain ⟨Ao34, co34, eo34⟩ := Kd.R_slice HO516.out; subst eo34; have p520 : 0 ≤ ((ji24) : Int) := of_decide_eq_true (by first | (with_reducible assumption) | assumption); have q520 : (ji24) < (t513.length : Int) := of_decide_eq_true (by first | (with_reducible assumption) | assumption); obtain ⟨ad520, e520, hx520_0⟩ := Kd.at_string (Kd.R_reads' HO516.out).2.2 (ji24) p520 q520; cases e520; replace p520 := eq_true p520; replace q520 := eq_true q520) | ((with_reducible refine gate_dst (N := 69) rfl ?_); refine Kd.conv_event rfl 9 22 5 _ (rdOf ByteArray.empty t513 (ji24)) y521 rfl rfl Try.underlying9 Try.underlying22 Try.underlying5 Ny521.out (of_decide_eq_true (by first | (with_reducible assumption) | assumption)) ?_; intro g524 c524 w35 hr_ hc_ hb; have n0_ := Aside0.mk (Kd.R_below (kr_ HO516.out) hb); have n1_ := Aside0.mk (below_step (be_ HB.out) hb); have n2_ := Aside0.mk (hr_); have n3_ := Aside0.mk (hc_); clear HO516; clear HB; have HO516 := n0_; have HB := n1_; have HR524 := n2_; have HC524 := n3_; clear n0_ n1_ n2_ n3_; clear hb hr_ hc_) | ((with_reducible refine gate_callee (f := 53) rfl ?_); refine goesL_ (some 70) rfl rfl Try.func53 (by kernel_rfl) rfl #[.slice (some ⟨g524, 0, none⟩) y521.length c524] rfl al_ ?_; (with_reducible refine (spec_Digest.calls kj16 _ _ y521 t525 _ ?side1 ?side2 A28.out).mono ?_); (case side1 => repeat (first | exact (by repeat (first | (with_reducible exact HR524.out) | (with_reducible refine Kd.C_alloc ?_ _) | (with_reducible refine Kd.C_drewN ?_ _) | (with_reducible refine Kd.C_drew ?_) | exact HR524.out)) | (with_reducible refine Kd.C_alloc ?_ _) | (with_reducible refine Kd.C_drewN ?_ _) | (with_reducible refine Kd.C_drew ?_))); (case side2 => exact HC524.out); rintro e w36 ⟨rfl, hb⟩; refine ⟨_, rfl, ?_⟩; have n0_ := Aside0.mk (Kd.R_below (kr_ HO516.out) hb); have n1_ := Aside0.mk (Kd.C_below (by repeat (first | (with_reducible exact HR524.out) | (with_reducible refine Kd.C_alloc ?_ _) | (with_reducible refine Kd.C_drewN ?_ _) | (with_reducible refine Kd.C_drew ?_) | exact HR524.out)) hb); have n2_ := Aside0.mk (below_step (be_ HB.out) hb); clear HO516; clear HR524; clear HB; have HO516 := n0_; have HR524 := n1_; have HB := n2_; clear n0_ n1_ n2_; (try clear hb); (try clear hb2); (try clear hk); (try clear hi)) | ((with_reducible refine gate_callee (f := 125) rfl ?_); refine goesL_ (some 77) rfl rfl Try.func125 (by kernel_rfl) rfl #[.string t525, .string (rdOf ByteArray.empty l3 (ji13))] rfl (by (try simp only [List.map_toArray, List.map_cons, List.map_nil]); first | done | (simp only [hji13]; rfl) | rfl | (simp only [List.length_drop, List.length_take]; rfl)) ?_; (with_reducible refine (spec_l4Node.calls t525 (rdOf ByteArray.empty l3 (ji13)) t526 _ A30.out).mono ?_); rintro e w37 ⟨v527, rfl, ho0, hb⟩; refine ⟨_, rfl, ?_⟩; have n0_ := Aside0.mk (Kd.R_below (kr_ HO516.out) hb); have n1_ := Aside0.mk (Kd.R_lower ho0 (below_size (be_ HB.out))); have n2_ := Aside0.mk (Kd.C_below (by repeat (first | (with_reducible exact HR524.out) | (with_reducible refine Kd.C_alloc ?_ _) | (with_reducible refine Kd.C_drewN ?_ _) | (with_reducible refine Kd.C_drew ?_) | exact HR524.out)) hb); have n3_ := Aside0.mk (below_step (be_ HB.out) hb); clear HO516; clear HR524; clear HB; have HO516 := n0_; have HO528 := n1_; have HR524 := n2_; have HB := n3_; clear n0_ n1_ n2_ n3_; (try clear hb); (try clear hb2); (try clear hk); (try clear hi); (try clear ho0); have hcv38 := own_string (P := Try.prog) Try.underlying22 Try.underlying5 Try.underlying9 (Kd.own_of_R HO528.out)) | ((with_reducible refine gate_builtin (b := .append) (xs := #[.tmp 74, .tmp 79]) rfl ?_); at_builtin; refine Kd.R_append Kd.string (w0 := w) w.heap.size rfl (.tmp 74) (.tmp 79) 27 9 (.string ⟨#[]⟩) 16 rfl Try.underlying27 info9 rfl (by decide) (by omega) (.slice (some ad520) t513.length co34) t513 (strOfNums t526) [.string (strOfNums t526)] (fun _ => True) (fun _ => False) rfl rfl ?aP (fun _ hk => hk.elim) ?aF ?aO ?aB ?aS ?aL ?_; (case aP => exact rfl); (case aB => exact (be_ HB.out)); (case aF => exact (fun _ _ => trivial)); (case aO => exact (kr_ HO516.out)); (case aS => exact (below_size (be_ HB.out))); (case aL => have := LMc31.out; omega); intro v530 w39 ho hb hg hat; rw [← Ny529.out] at ho; have n0_ := Aside0.mk (Kd.R_over' (kr_ HO528.out) (Kd.R_typed (kr_ HO516.out)) (by decide) hg); have n1_ := Aside0.mk (hb); have n2_ := Aside0.mk (ho); clear HO528; clear HB; clear HO516; have HO528 := n0_; have HB := n1_; have HO531 := n2_; clear n0_ n1_ n2_; clear ho hb hg hat))
            go_ret2
            exact ⟨_, by first | rfl | (simp [errW_none, errW_some] <;> rfl) | (simp only [← hji13, ← hji19, ← hji24]; first | rfl | (simp [errW_none, errW_some] <;> rfl)) | (simp [*, errW_none, errW_some] <;> rfl), by (with_reducible repeat (first | apply Kd.R_alloc | apply Kd.R_drewN | apply Kd.R_drew)); exact HO531.out, be_ HB.out⟩
          · rw [if_neg c29] at H
            have c29b0 : decide (a1 < t511) = false := decide_eq_false c29
            clear c29
            replace H := Option.bind_eq_some_iff.mp H
            obtain ⟨t532, A400, H⟩ := H
            have A40 := Aside0.mk A400
            clear A400
            by_cases c41 : t513.length < 8796093022208
            rotate_left
            · rw [if_neg c41] at H; exact absurd H (by simp)
            rw [if_pos c41] at H
            have LMc41 := Aside0.mk c41
            clear c41
            obtain ⟨y535, hy535⟩ : ∃ y_ : List ByteArray, y_ = (t513 ++ [strOfNums t532]) := ⟨_, rfl⟩
            replace H : (some (y535, true)) = some (r1, r2) := by first | (rw [hy535]; with_reducible exact H) | (have H2_ := (Option.bind_some _ _).symm.trans H; rw [hy535]; with_reducible exact H2_) | (have H2_ := (Option.bind_some _ _).symm.trans H; with_reducible exact H2_) | with_reducible exact H | (rw [hy535]; exact H) | exact H
            have Ny535 := Aside0.mk hy535
            clear hy535
            simp only [Option.some.injEq, Prod.mk.injEq] at H
            obtain ⟨rfl, rfl⟩ := H
            obtain ⟨i042, hi042, _, hsz42, _⟩ := info_parts info9
            obtain ⟨hcut42, hA42, hC42⟩ := print_take_of (P := Try.prog) Value.string (⟨#[]⟩ : ByteArray) 27 9 .i64 Try.underlying27 hi042 hsz42 (some ad510) c3 l3 (ji19) (of_decide_eq_true (by first | (with_reducible assumption) | assumption)) (of_decide_eq_true (by first | (with_reducible assumption) | assumption)) HC3.out
            have HR512 := Aside0.mk (Kd.C_of_reads (h1 := fun _ => rfl) (hA42 _ (Kd.reads_of_C HR3.out)))
            have HC512 := Aside0.mk hC42
            clear hA42 hC42 hi042 hsz42
            go_wp2_with (first | ((with_reducible refine gate_callee (f := 103) rfl ?_); refine goesL_ (some 57) rfl rfl Try.func103 (by kernel_rfl) rfl #[.slice A0 l0.length c0, .int .i64 x13_16, .int .i64 x12_16, .slice (some ad510) (l3.take ((ji19) : Int).toNat).length c3] rfl (by (try simp only [List.map_toArray, List.map_cons, List.map_nil]); first | done | (rw [show (l3.take ((ji19) : Int).toNat).length = (ji19).toNat from (by rw [List.length_take]; have h_ : ((ji19) : Int) ≤ (l3.length : Int) := of_decide_eq_true (by first | (with_reducible assumption) | assumption); omega)] <;> rfl) | (simp only [hji19]; rfl) | rfl | (simp only [List.length_drop, List.length_take]; rfl)) ?_; (with_reducible refine (ih kj16 (by have := HJ16.out; omega) _ _ l0 x13_16 x12_16 _ _ (l3.take ((ji19) : Int).toNat) t513 true _ ?side1 ?side2 ?side3 ?side4 A22.out).mono ?_); (case side1 => exact kc_ (Kd.C_below HR0.out HB.out)); (case side2 => exact HC0.out); (case side3 => exact kc_ (Kd.C_below HR512.out HB.out)); (case side4 => exact HC512.out); rintro e w43 ⟨v515, rfl, ho0, hb⟩; refine ⟨_, rfl, ?_⟩; have n0_ := Aside0.mk (Kd.R_lower ho0 (below_size (be_ HB.out))); have n1_ := Aside0.mk (below_step (be_ HB.out) hb); clear HB; have HO516 := n0_; have HB := n1_; clear n0_ n1_; (try clear hb); (try clear hb2); (try clear hk); (try clear hi); (try clear ho0); obtain ⟨Ao44, co44, eo44⟩ := Kd.R_slice HO516.out; subst eo44; have p520 : 0 ≤ ((ji24) : Int) := of_decide_eq_true (by first | (with_reducible assumption) | assumption); have q520 : (ji24) < (t513.length : Int) := of_decide_eq_true (by first | (with_reducible assumption) | assumption); obtain ⟨ad520, e520, hx520_0⟩ := Kd.at_string (Kd.R_reads' HO516.out).2.2 (ji24) p520 q520; cases e520; replace p520 := eq_true p520; replace q520 := eq_true q520) | ((with_reducible refine gate_dst (N := 69) rfl ?_); refine Kd.conv_event rfl 9 22 5 _ (rdOf ByteArray.empty t513 (ji24)) y521 rfl rfl Try.underlying9 Try.underlying22 Try.underlying5 Ny521.out (of_decide_eq_true (by first | (with_reducible assumption) | assumption)) ?_; intro g524 c524 w45 hr_ hc_ hb; have n0_ := Aside0.mk (Kd.R_below (kr_ HO516.out) hb); have n1_ := Aside0.mk (below_step (be_ HB.out) hb); have n2_ := Aside0.mk (hr_); have n3_ := Aside0.mk (hc_); clear HO516; clear HB; have HO516 := n0_; have HB := n1_; have HR524 := n2_; have HC524 := n3_; clear n0_ n1_ n2_ n3_; clear hb hr_ hc_) | ((with_reducible refine gate_callee (f := 53) rfl ?_); refine goesL_ (some 70) rfl rfl Try.func53 (by kernel_rfl) rfl #[.slice (some ⟨g524, 0, none⟩) y521.length c524] rfl al_ ?_; (with_reducible refine (spec_Digest.calls kj16 _ _ y521 t525 _ ?side1 ?side2 A28.out).mono ?_); (case side1 => repeat (first | exact (by repeat (first | (with_reducible exact HR524.out) | (with_reducible refine Kd.C_alloc ?_ _) | (with_reducible refine Kd.C_drewN ?_ _) | (with_reducible refine Kd.C_drew ?_) | exact HR524.out)) | (with_reducible refine Kd.C_alloc ?_ _) | (with_reducible refine Kd.C_drewN ?_ _) | (with_reducible refine Kd.C_drew ?_))); (case side2 => exact HC524.out); rintro e w46 ⟨rfl, hb⟩; refine ⟨_, rfl, ?_⟩; have n0_ := Aside0.mk (Kd.R_below (kr_ HO516.out) hb); have n1_ := Aside0.mk (Kd.C_below (by repeat (first | (with_reducible exact HR524.out) | (with_reducible refine Kd.C_alloc ?_ _) | (with_reducible refine Kd.C_drewN ?_ _) | (with_reducible refine Kd.C_drew ?_) | exact HR524.out)) hb); have n2_ := Aside0.mk (below_step (be_ HB.out) hb); clear HO516; clear HR524; clear HB; have HO516 := n0_; have HR524 := n1_; have HB := n2_; clear n0_ n1_ n2_; (try clear hb); (try clear hb2); (try clear hk); (try clear hi)) | ((with_reducible refine gate_callee (f := 125) rfl ?_); refine goesL_ (some 84) rfl rfl Try.func125 (by kernel_rfl) rfl #[.string (rdOf ByteArray.empty l3 (ji13)), .string t525] rfl (by (try simp only [List.map_toArray, List.map_cons, List.map_nil]); first | done | (simp only [hji13]; rfl) | rfl | (simp only [List.length_drop, List.length_take]; rfl)) ?_; (with_reducible refine (spec_l4Node.calls (rdOf ByteArray.empty l3 (ji13)) t525 t532 _ A40.out).mono ?_); rintro e w47 ⟨v533, rfl, ho0, hb⟩; refine ⟨_, rfl, ?_⟩; have n0_ := Aside0.mk (Kd.R_below (kr_ HO516.out) hb); have n1_ := Aside0.mk (Kd.R_lower ho0 (below_size (be_ HB.out))); have n2_ := Aside0.mk (Kd.C_below (by repeat (first | (with_reducible exact HR524.out) | (with_reducible refine Kd.C_alloc ?_ _) | (with_reducible refine Kd.C_drewN ?_ _) | (with_reducible refine Kd.C_drew ?_) | exact HR524.out)) hb); have n3_ := Aside0.mk (below_step (be_ HB.out) hb); clear HO516; clear HR524; clear HB; have HO516 := n0_; have HO534 := n1_; have HR524 := n2_; have HB := n3_; clear n0_ n1_ n2_ n3_; (try clear hb); (try clear hb2); (try clear hk); (try clear hi); (try clear ho0); have hcv48 := own_string (P := Try.prog) Try.underlying22 Try.underlying5 Try.underlying9 (Kd.own_of_R HO534.out)) | ((with_reducible refine gate_builtin (b := .append) (xs := #[.tmp 81, .tmp 86]) rfl ?_); at_builtin; refine Kd.R_append Kd.string (w0 := w) w.heap.size rfl (.tmp 81) (.tmp 86) 27 9 (.string ⟨#[]⟩) 16 rfl Try.underlying27 info9 rfl (by decide) (by omega) (.slice (some ad520) t513.length co44) t513 (strOfNums t532) [.string (strOfNums t532)] (fun _ => True) (fun _ => False) rfl rfl ?aP (fun _ hk => hk.elim) ?aF ?aO ?aB ?aS ?aL ?_; (case aP => exact rfl); (case aB => exact (be_ HB.out)); (case aF => exact (fun _ _ => trivial)); (case aO => exact (kr_ HO516.out)); (case aS => exact (below_size (be_ HB.out))); (case aL => have := LMc41.out; omega); intro v536 w49 ho hb hg hat; rw [← Ny535.out] at ho; have n0_ := Aside0.mk (Kd.R_over' (kr_ HO534.out) (Kd.R_typed (kr_ HO516.out)) (by decide) hg); have n1_ := Aside0.mk (hb); have n2_ := Aside0.mk (ho); clear HO534; clear HB; clear HO516; have HO534 := n0_; have HB := n1_; have HO537 := n2_; clear n0_ n1_ n2_; clear ho hb hg hat))
            go_ret2
            exact ⟨_, by first | rfl | (simp [errW_none, errW_some] <;> rfl) | (simp only [← hji13, ← hji19, ← hji24]; first | rfl | (simp [errW_none, errW_some] <;> rfl)) | (simp [*, errW_none, errW_some] <;> rfl), by (with_reducible repeat (first | apply Kd.R_alloc | apply Kd.R_drewN | apply Kd.R_drew)); exact HO537.out, be_ HB.out⟩
        · replace c23 := Bool.eq_false_iff.mpr c23
          subst c23
          have H1 : (some ((([] : List ByteArray)), false)) = some (r1, r2) := by rw [if_neg (show ¬ (false = true) by decide)] at H; exact H
          clear H
          have H := H1
          clear H1
          obtain ⟨y517, hy517⟩ : ∃ y_ : List ByteArray, y_ = (([] : List ByteArray)) := ⟨_, rfl⟩
          replace H : (some (y517, false)) = some (r1, r2) := by first | (rw [hy517]; with_reducible exact H) | (have H2_ := (Option.bind_some _ _).symm.trans H; rw [hy517]; with_reducible exact H2_) | (have H2_ := (Option.bind_some _ _).symm.trans H; with_reducible exact H2_) | with_reducible exact H | (rw [hy517]; exact H) | exact H
          have Ny517 := Aside0.mk hy517
          clear hy517
          simp only [Option.some.injEq, Prod.mk.injEq] at H
          obtain ⟨rfl, rfl⟩ := H
          obtain ⟨i050, hi050, _, hsz50, _⟩ := info_parts info9
          obtain ⟨hcut50, hA50, hC50⟩ := print_take_of (P := Try.prog) Value.string (⟨#[]⟩ : ByteArray) 27 9 .i64 Try.underlying27 hi050 hsz50 (some ad510) c3 l3 (ji19) (of_decide_eq_true (by first | (with_reducible assumption) | assumption)) (of_decide_eq_true (by first | (with_reducible assumption) | assumption)) HC3.out
          have HR512 := Aside0.mk (Kd.C_of_reads (h1 := fun _ => rfl) (hA50 _ (Kd.reads_of_C HR3.out)))
          have HC512 := Aside0.mk hC50
          clear hA50 hC50 hi050 hsz50
          go_wp2_with (first | ((with_reducible refine gate_callee (f := 103) rfl ?_); refine goesL_ (some 57) rfl rfl Try.func103 (by kernel_rfl) rfl #[.slice A0 l0.length c0, .int .i64 x13_16, .int .i64 x12_16, .slice (some ad510) (l3.take ((ji19) : Int).toNat).length c3] rfl (by (try simp only [List.map_toArray, List.map_cons, List.map_nil]); first | done | (rw [show (l3.take ((ji19) : Int).toNat).length = (ji19).toNat from (by rw [List.length_take]; have h_ : ((ji19) : Int) ≤ (l3.length : Int) := of_decide_eq_true (by first | (with_reducible assumption) | assumption); omega)] <;> rfl) | (simp only [hji19]; rfl) | rfl | (simp only [List.length_drop, List.length_take]; rfl)) ?_; (with_reducible refine (ih kj16 (by have := HJ16.out; omega) _ _ l0 x13_16 x12_16 _ _ (l3.take ((ji19) : Int).toNat) t513 false _ ?side1 ?side2 ?side3 ?side4 A22.out).mono ?_); (case side1 => exact kc_ (Kd.C_below HR0.out HB.out)); (case side2 => exact HC0.out); (case side3 => exact kc_ (Kd.C_below HR512.out HB.out)); (case side4 => exact HC512.out); rintro e w51 ⟨v515, rfl, ho0, hb⟩; refine ⟨_, rfl, ?_⟩; have n0_ := Aside0.mk (Kd.R_lower ho0 (below_size (be_ HB.out))); have n1_ := Aside0.mk (below_step (be_ HB.out) hb); clear HB; have HO516 := n0_; have HB := n1_; clear n0_ n1_; (try clear hb); (try clear hb2); (try clear hk); (try clear hi); (try clear ho0)) | ((with_reducible refine gate_dst (N := 62) rfl ?_); refine Kd.R_lit Kd.string _ 9 ?hg (N := 62) ?hd (xs := ([] : List ByteArray)) (inner := []) (ok := fun _ => True) (okp := fun _ => True) ?hr ?hp (fun _ hk => hk) trivial (Below.refl _ _) (Nat.le_refl _) (by simp) ?_; (case hd => rfl); (case hg => rfl); (case hr => first | (go_simp; done) | (go_simp; rfl)); (case hp => exact (Reps.none _ _)); intro v518 w52 ho53 hb hg_ hnew_; clear hg_ hnew_; (first | rw [← Ny517.out] at ho53 | (simp only [Int.reduceToNat] at ho53; rw [← Ny517.out] at ho53)); have n0_ := Aside0.mk (Kd.R_elder' (kr_ HO516.out) (Kd.R_base ho53) hb); have n1_ := Aside0.mk (Kd.R_lower (Kd.R_new' ho53 (Kd.R_lt (kr_ HO516.out))) (below_size (be_ HB.out))); have n2_ := Aside0.mk (below_step (be_ HB.out) hb); clear HO516; clear HB; have HO516 := n0_; have HO519 := n1_; have HB := n2_; clear n0_ n1_ n2_; clear hb ho53))
          go_ret2
          exact ⟨_, by first | rfl | (simp [errW_none, errW_some] <;> rfl) | (simp only [← hji13, ← hji19]; first | rfl | (simp [errW_none, errW_some] <;> rfl)) | (simp [*, errW_none, errW_some] <;> rfl), by (with_reducible repeat (first | apply Kd.R_alloc | apply Kd.R_drewN | apply Kd.R_drew)); exact Kd.R_mono HO519.out (fun _ hk => trivial), be_ HB.out⟩

/-! ###  spec_l4Top: function 104 -/
def spec_l4Top.f (k : Nat) (a0 : Int) (a1 : ByteArray) : Option (List Int) := (spec_PutNum.f k (([2] : List Int)) a0).bind fun t541 => (if t541.length + a1.size < 140737488355328 then (some (t541 ++ bytesOf a1)) else (none))
set_option maxHeartbeats 8000000 in
set_option maxRecDepth 100000 in
theorem spec_l4Top.calls (k : Nat) (a0 : Int) (a1 : ByteArray) (r : List Int) (w : World) (h : spec_l4Top.f k a0 a1 = some r) :
  Calls Try.prog 104 #[.int .i64 a0, .string a1] w fun e w' => ∃ v0_ : Value, e = .returned (v0_) ∧ Kd.R (Kd.int .u8) 5 w' w.heap.size (fun _ => True) v0_ r ∧ Below w.heap.size w w' := by
  have HB := Aside0.mk (Below.refl w.heap.size w)
  have H : ((spec_PutNum.f k (([2] : List Int)) a0).bind fun t541 => (if t541.length + a1.size < 140737488355328 then (some (t541 ++ bytesOf a1)) else (none))) = some r := h
  clear h
  obtain ⟨y538, hy538⟩ : ∃ y_ : List Int, y_ = (([2] : List Int)) := ⟨_, rfl⟩
  replace H : ((spec_PutNum.f k y538 a0).bind fun t541 => (if t541.length + a1.size < 140737488355328 then (some (t541 ++ bytesOf a1)) else (none))) = some r := by first | (rw [hy538]; with_reducible exact H) | (have H2_ := (Option.bind_some _ _).symm.trans H; rw [hy538]; with_reducible exact H2_) | (have H2_ := (Option.bind_some _ _).symm.trans H; with_reducible exact H2_) | with_reducible exact H | (rw [hy538]; exact H) | exact H
  have Ny538 := Aside0.mk hy538
  clear hy538
  replace H := Option.bind_eq_some_iff.mp H
  obtain ⟨t541, A30, H⟩ := H
  have A3 := Aside0.mk A30
  clear A30
  by_cases c4 : t541.length + a1.size < 140737488355328
  rotate_left
  · rw [if_neg c4] at H; exact absurd H (by simp)
  rw [if_pos c4] at H
  have LMc4 := Aside0.mk c4
  clear c4
  obtain ⟨y544, hy544⟩ : ∃ y_ : List Int, y_ = (t541 ++ bytesOf a1) := ⟨_, rfl⟩
  replace H : (some y544) = some r := by first | (rw [hy544]; with_reducible exact H) | (have H2_ := (Option.bind_some _ _).symm.trans H; rw [hy544]; with_reducible exact H2_) | (have H2_ := (Option.bind_some _ _).symm.trans H; with_reducible exact H2_) | with_reducible exact H | (rw [hy544]; exact H) | exact H
  have Ny544 := Aside0.mk hy544
  clear hy544
  obtain rfl := Option.some.inj H
  go_enter Try.func104, Try.ntmps104
  go_wp2_with (first | ((with_reducible refine gate_dst (N := 5) rfl ?_); refine Kd.R_lit (Kd.int .u8) _ 5 ?hg (N := 5) ?hd (xs := ([2] : List Int)) (inner := [.int .u8 2]) (ok := fun _ => True) (okp := fun _ => True) ?hr ?hp (fun _ hk => hk) trivial (Below.refl _ _) (Nat.le_refl _) (by simp) ?_; (case hd => rfl); (case hg => rfl); (case hr => first | (go_simp; done) | (go_simp; rfl)); (case hp => exact (Reps.one (show Kd.M (Kd.int .u8) _ _ _ 2 [.int .u8 2] from rfl) (Reps.none _ _))); intro v539 w5 ho6 hb hg_ hnew_; clear hg_ hnew_; (first | rw [← Ny538.out] at ho6 | (simp only [Int.reduceToNat] at ho6; rw [← Ny538.out] at ho6)); have n0_ := Aside0.mk (Kd.R_lower ho6 (below_size (be_ HB.out))); have n1_ := Aside0.mk (below_step (be_ HB.out) hb); clear HB; have HO540 := n0_; have HB := n1_; clear n0_ n1_; clear hb ho6; obtain ⟨Ao7, co7, eo7⟩ := Kd.R_slice HO540.out; subst eo7) | ((with_reducible refine gate_callee (f := 126) rfl ?_); refine goesL_ (some 7) rfl rfl Try.func126 (by kernel_rfl) rfl #[.slice Ao7 y538.length co7, .int .i64 a0] rfl al_ ?_; (with_reducible refine (spec_PutNum.calls k _ _ y538 a0 t541 _ ?side1 ?side2 A3.out).mono ?_); (case side1 => exact kc_ (Kd.R_reads' HO540.out).2.2); (case side2 => exact (Kd.R_reads' HO540.out).2.1); rintro e w8 ⟨v542, rfl, ho0, hb⟩; refine ⟨_, rfl, ?_⟩; have n0_ := Aside0.mk (Kd.R_elder' (kr_ HO540.out) (Kd.R_base ho0) hb); have n1_ := Aside0.mk (Kd.R_lower (Kd.R_new' ho0 (Kd.R_lt (kr_ HO540.out))) (below_size (be_ HB.out))); have n2_ := Aside0.mk (below_step (be_ HB.out) hb); clear HO540; clear HB; have HO540 := n0_; have HO543 := n1_; have HB := n2_; clear n0_ n1_ n2_; (try clear hb); (try clear hb2); (try clear hk); (try clear hi); (try clear ho0)) | ((with_reducible refine gate_builtin (b := .append) (xs := #[.tmp 7, _]) rfl ?_); at_builtin; refine Kd.R_append_str (w0 := w) w.heap.size rfl (.tmp 7) _ 22 9 5 rfl Try.underlying22 Try.underlying9 info5 v542 t541 a1 (fun k_ => some k_ ≠ (.slice Ao7 y538.length co7 : Value).ownBlock) rfl rfl ?aF ?aO ?aB ?aS ?aL ?_; (case aB => exact (be_ HB.out)); (case aF => exact (fun k_ hk => Kd.fresh' (Kd.R_lt (kr_ HO540.out)) k_ hk)); (case aO => exact (by (with_reducible repeat (first | apply Kd.R_alloc | apply Kd.R_drewN | apply Kd.R_drew)); exact Kd.R_mono HO543.out (fun _ hk => hk.2))); (case aS => exact (below_size (be_ HB.out))); (case aL => have := LMc4.out; omega); intro v545 w9 ho hb hg hat; rw [← Ny544.out] at ho; have n0_ := Aside0.mk (Kd.R_after (ok := (fun _ => True)) (kr_ HO540.out) hg hat); have n1_ := Aside0.mk (hb); have n2_ := Aside0.mk (ho); clear HO540; clear HB; clear HO543; have HO540 := n0_; have HB := n1_; have HO546 := n2_; clear n0_ n1_ n2_; clear ho hb hg hat))
  go_ret
  exact ⟨_, by first | rfl | (simp [errW_none, errW_some] <;> rfl) | (simp [*, errW_none, errW_some] <;> rfl), by (with_reducible repeat (first | apply Kd.R_alloc | apply Kd.R_drewN | apply Kd.R_drew)); exact Kd.R_mono HO546.out (fun _ hk => trivial), be_ HB.out⟩

/-! ###  spec_l4All: function 62 -/
def spec_l4All.f (k : Nat) (l0 : List Int) (a1 : Int) (a2 : Int) (l3 : List ByteArray) : Option (List ByteArray × Bool) := (spec_l4Hashed.f k l0 a1 a2 l3).bind fun bt547 => (if bt547.2 = true then (if 0 ≤ (wrap64 ((bt547.1.length : Int) - 1)) then (if (wrap64 ((bt547.1.length : Int) - 1)) < (bt547.1.length : Int) then (if (rdOf ByteArray.empty bt547.1 (wrap64 ((bt547.1.length : Int) - 1))).size ≤ 9223372036854775807 then ((spec_Digest.f k (bytesOf (rdOf ByteArray.empty bt547.1 (wrap64 ((bt547.1.length : Int) - 1))))).bind fun t556 => ((spec_l4Top.f k a2 t556).bind fun t557 => (if bt547.1.length < 8796093022208 then (some ((bt547.1 ++ [strOfNums t557]), true)) else (none)))) else (none)) else (none)) else (none)) else (some ((([] : List ByteArray)), false)))
set_option maxHeartbeats 8000000 in
set_option maxRecDepth 100000 in
theorem spec_l4All.calls (k : Nat) (A0 : Option Addr) (c0 : Nat) (l0 : List Int) (a1 : Int) (a2 : Int) (A3 : Option Addr) (c3 : Nat) (l3 : List ByteArray) (r1 : List ByteArray) (r2 : Bool) (w : World) (hr0 : Kd.C (Kd.int .u8) w A0 l0.length l0) (hc0 : l0.length ≤ c0) (hr3 : Kd.C Kd.string w A3 l3.length l3) (hc3 : l3.length ≤ c3) (h : spec_l4All.f k l0 a1 a2 l3 = some (r1, r2)) :
  Calls Try.prog 62 #[.slice A0 l0.length c0, .int .i64 a1, .int .i64 a2, .slice A3 l3.length c3] w fun e w' => ∃ v0_ : Value, e = .returned (.tuple #[v0_, .bool r2]) ∧ Kd.R Kd.string 9 w' w.heap.size (fun _ => True) v0_ r1 ∧ Below w.heap.size w w' := by
  have HR0 := Aside0.mk hr0
  have HC0 := Aside0.mk hc0
  clear hr0 hc0
  have HR3 := Aside0.mk hr3
  have HC3 := Aside0.mk hc3
  clear hr3 hc3
  have HB := Aside0.mk (Below.refl w.heap.size w)
  have H : ((spec_l4Hashed.f k l0 a1 a2 l3).bind fun bt547 => (if bt547.2 = true then (if 0 ≤ (wrap64 ((bt547.1.length : Int) - 1)) then (if (wrap64 ((bt547.1.length : Int) - 1)) < (bt547.1.length : Int) then (if (rdOf ByteArray.empty bt547.1 (wrap64 ((bt547.1.length : Int) - 1))).size ≤ 9223372036854775807 then ((spec_Digest.f k (bytesOf (rdOf ByteArray.empty bt547.1 (wrap64 ((bt547.1.length : Int) - 1))))).bind fun t556 => ((spec_l4Top.f k a2 t556).bind fun t557 => (if bt547.1.length < 8796093022208 then (some ((bt547.1 ++ [strOfNums t557]), true)) else (none)))) else (none)) else (none)) else (none)) else (some ((([] : List ByteArray)), false)))) = some (r1, r2) := h
  clear h
  replace H := Option.bind_eq_some_iff.mp H
  obtain ⟨⟨t547, t548⟩, A50, H⟩ := H; try dsimp only at H
  have A5 := Aside0.mk A50
  clear A50
  by_cases c6 : t548 = true
  · subst c6
    have H1 : (if 0 ≤ (wrap64 ((t547.length : Int) - 1)) then (if (wrap64 ((t547.length : Int) - 1)) < (t547.length : Int) then (if (rdOf ByteArray.empty t547 (wrap64 ((t547.length : Int) - 1))).size ≤ 9223372036854775807 then ((spec_Digest.f k (bytesOf (rdOf ByteArray.empty t547 (wrap64 ((t547.length : Int) - 1))))).bind fun t556 => ((spec_l4Top.f k a2 t556).bind fun t557 => (if t547.length < 8796093022208 then (some ((t547 ++ [strOfNums t557]), true)) else (none)))) else (none)) else (none)) else (none)) = some (r1, r2) := by rw [if_pos rfl] at H; exact H
    clear H
    have H := H1
    clear H1
    obtain ⟨ji7, hji7⟩ : ∃ j_ : Int, (wrap64 ((t547.length : Int) - 1)) = j_ := ⟨_, rfl⟩
    replace H : (if 0 ≤ (ji7) then (if (ji7) < (t547.length : Int) then (if (rdOf ByteArray.empty t547 (ji7)).size ≤ 9223372036854775807 then ((spec_Digest.f k (bytesOf (rdOf ByteArray.empty t547 (ji7)))).bind fun t556 => ((spec_l4Top.f k a2 t556).bind fun t557 => (if t547.length < 8796093022208 then (some ((t547 ++ [strOfNums t557]), true)) else (none)))) else (none)) else (none)) else (none)) = some (r1, r2) := by first | (rw [hji7] at H; exact H) | (simp only [hji7] at H ⊢; exact H)
    (try rw [hji7] at A5)
    have hji7w : (IntKind.i64.wrap ((t547.length : Int) - 1)) = ji7 := (i64_w _).trans hji7
    by_cases c8 : 0 ≤ (ji7)
    rotate_left
    · rw [if_neg c8] at H; exact absurd H (by simp)
    rw [if_pos c8] at H
    have c8b0 : decide (0 ≤ (ji7)) = true := decide_eq_true c8
    clear c8
    by_cases c9 : (ji7) < (t547.length : Int)
    rotate_left
    · rw [if_neg c9] at H; exact absurd H (by simp)
    rw [if_pos c9] at H
    have c9b0 : decide ((ji7) < (t547.length : Int)) = true := decide_eq_true c9
    clear c9
    by_cases c10 : (rdOf ByteArray.empty t547 (ji7)).size ≤ 9223372036854775807
    rotate_left
    · rw [if_neg c10] at H; exact absurd H (by simp)
    rw [if_pos c10] at H
    have c10b0 := eq_true c10
    have c10b1 : decide ((rdOf ByteArray.empty t547 (ji7)).size ≤ 9223372036854775807) = true := decide_eq_true c10
    try have c10b2 : (9223372036854775807 < (rdOf ByteArray.empty t547 (ji7)).size) = False := eq_false (Nat.not_lt.2 c10)
    clear c10
    obtain ⟨y552, hy552⟩ : ∃ y_ : List Int, y_ = (bytesOf (rdOf ByteArray.empty t547 (ji7))) := ⟨_, rfl⟩
    replace H : ((spec_Digest.f k y552).bind fun t556 => ((spec_l4Top.f k a2 t556).bind fun t557 => (if t547.length < 8796093022208 then (some ((t547 ++ [strOfNums t557]), true)) else (none)))) = some (r1, r2) := by first | (rw [hy552]; with_reducible exact H) | (have H2_ := (Option.bind_some _ _).symm.trans H; rw [hy552]; with_reducible exact H2_) | (have H2_ := (Option.bind_some _ _).symm.trans H; with_reducible exact H2_) | with_reducible exact H | (rw [hy552]; exact H) | exact H
    have Ny552 := Aside0.mk hy552
    clear hy552
    replace H := Option.bind_eq_some_iff.mp H
    obtain ⟨t556, A110, H⟩ := H
    have A11 := Aside0.mk A110
    clear A110
    replace H := Option.bind_eq_some_iff.mp H
    obtain ⟨t557, A120, H⟩ := H
    have A12 := Aside0.mk A120
    clear A120
    by_cases c13 : t547.length < 8796093022208
    rotate_left
    · rw [if_neg c13] at H; exact absurd H (by simp)
    rw [if_pos c13] at H
    have LMc13 := Aside0.mk c13
    clear c13
    obtain ⟨y560, hy560⟩ : ∃ y_ : List ByteArray, y_ = (t547 ++ [strOfNums t557]) := ⟨_, rfl⟩
    replace H : (some (y560, true)) = some (r1, r2) := by first | (rw [hy560]; with_reducible exact H) | (have H2_ := (Option.bind_some _ _).symm.trans H; rw [hy560]; with_reducible exact H2_) | (have H2_ := (Option.bind_some _ _).symm.trans H; with_reducible exact H2_) | with_reducible exact H | (rw [hy560]; exact H) | exact H
    have Ny560 := Aside0.mk hy560
    clear hy560
    simp only [Option.some.injEq, Prod.mk.injEq] at H
    obtain ⟨rfl, rfl⟩ := H
    go_enter Try.func62, Try.ntmps62
    go_wp2_with (first | ((with_reducible refine gate_callee (f := 103) rfl ?_); refine goesL_ (some 17) rfl rfl Try.func103 (by kernel_rfl) rfl #[.slice A0 l0.length c0, .int .i64 a1, .int .i64 a2, .slice A3 l3.length c3] rfl al_ ?_; (with_reducible refine (spec_l4Hashed.calls k _ _ l0 a1 a2 _ _ l3 t547 true _ ?side1 ?side2 ?side3 ?side4 A5.out).mono ?_); (case side1 => exact kc_ HR0.out); (case side2 => exact HC0.out); (case side3 => exact kc_ HR3.out); (case side4 => exact HC3.out); rintro e w14 ⟨v549, rfl, ho0, hb⟩; refine ⟨_, rfl, ?_⟩; have n0_ := Aside0.mk (Kd.R_lower ho0 (below_size (be_ HB.out))); have n1_ := Aside0.mk (below_step (be_ HB.out) hb); clear HB; have HO550 := n0_; have HB := n1_; clear n0_ n1_; (try clear hb); (try clear hb2); (try clear hk); (try clear hi); (try clear ho0); obtain ⟨Ao15, co15, eo15⟩ := Kd.R_slice HO550.out; subst eo15; have p551 : 0 ≤ ((ji7) : Int) := of_decide_eq_true (by first | (with_reducible assumption) | assumption); have q551 : (ji7) < (t547.length : Int) := of_decide_eq_true (by first | (with_reducible assumption) | assumption); obtain ⟨ad551, e551, hx551_0⟩ := Kd.at_string (Kd.R_reads' HO550.out).2.2 (ji7) p551 q551; cases e551; replace p551 := eq_true p551; replace q551 := eq_true q551) | ((with_reducible refine gate_dst (N := 31) rfl ?_); refine Kd.conv_event rfl 9 22 5 _ (rdOf ByteArray.empty t547 (ji7)) y552 rfl rfl Try.underlying9 Try.underlying22 Try.underlying5 Ny552.out (of_decide_eq_true (by first | (with_reducible assumption) | assumption)) ?_; intro g555 c555 w16 hr_ hc_ hb; have n0_ := Aside0.mk (Kd.R_below (kr_ HO550.out) hb); have n1_ := Aside0.mk (below_step (be_ HB.out) hb); have n2_ := Aside0.mk (hr_); have n3_ := Aside0.mk (hc_); clear HO550; clear HB; have HO550 := n0_; have HB := n1_; have HR555 := n2_; have HC555 := n3_; clear n0_ n1_ n2_ n3_; clear hb hr_ hc_) | ((with_reducible refine gate_callee (f := 53) rfl ?_); refine goesL_ (some 32) rfl rfl Try.func53 (by kernel_rfl) rfl #[.slice (some ⟨g555, 0, none⟩) y552.length c555] rfl al_ ?_; (with_reducible refine (spec_Digest.calls k _ _ y552 t556 _ ?side1 ?side2 A11.out).mono ?_); (case side1 => repeat (first | exact (by repeat (first | (with_reducible exact HR555.out) | (with_reducible refine Kd.C_alloc ?_ _) | (with_reducible refine Kd.C_drewN ?_ _) | (with_reducible refine Kd.C_drew ?_) | exact HR555.out)) | (with_reducible refine Kd.C_alloc ?_ _) | (with_reducible refine Kd.C_drewN ?_ _) | (with_reducible refine Kd.C_drew ?_))); (case side2 => exact HC555.out); rintro e w17 ⟨rfl, hb⟩; refine ⟨_, rfl, ?_⟩; have n0_ := Aside0.mk (Kd.R_below (kr_ HO550.out) hb); have n1_ := Aside0.mk (Kd.C_below (by repeat (first | (with_reducible exact HR555.out) | (with_reducible refine Kd.C_alloc ?_ _) | (with_reducible refine Kd.C_drewN ?_ _) | (with_reducible refine Kd.C_drew ?_) | exact HR555.out)) hb); have n2_ := Aside0.mk (below_step (be_ HB.out) hb); clear HO550; clear HR555; clear HB; have HO550 := n0_; have HR555 := n1_; have HB := n2_; clear n0_ n1_ n2_; (try clear hb); (try clear hb2); (try clear hk); (try clear hi)) | ((with_reducible refine gate_callee (f := 104) rfl ?_); refine goesL_ (some 33) rfl rfl Try.func104 (by kernel_rfl) rfl #[.int .i64 a2, .string t556] rfl al_ ?_; (with_reducible refine (spec_l4Top.calls k a2 t556 t557 _ A12.out).mono ?_); rintro e w18 ⟨v558, rfl, ho0, hb⟩; refine ⟨_, rfl, ?_⟩; have n0_ := Aside0.mk (Kd.R_below (kr_ HO550.out) hb); have n1_ := Aside0.mk (Kd.R_lower ho0 (below_size (be_ HB.out))); have n2_ := Aside0.mk (Kd.C_below (by repeat (first | (with_reducible exact HR555.out) | (with_reducible refine Kd.C_alloc ?_ _) | (with_reducible refine Kd.C_drewN ?_ _) | (with_reducible refine Kd.C_drew ?_) | exact HR555.out)) hb); have n3_ := Aside0.mk (below_step (be_ HB.out) hb); clear HO550; clear HR555; clear HB; have HO550 := n0_; have HO559 := n1_; have HR555 := n2_; have HB := n3_; clear n0_ n1_ n2_ n3_; (try clear hb); (try clear hb2); (try clear hk); (try clear hi); (try clear ho0); have hcv19 := own_string (P := Try.prog) Try.underlying22 Try.underlying5 Try.underlying9 (Kd.own_of_R HO559.out)) | ((with_reducible refine gate_builtin (b := .append) (xs := #[.tmp 23, .tmp 35]) rfl ?_); at_builtin; refine Kd.R_append Kd.string (w0 := w) w.heap.size rfl (.tmp 23) (.tmp 35) 27 9 (.string ⟨#[]⟩) 16 rfl Try.underlying27 info9 rfl (by decide) (by omega) (.slice (some ad551) t547.length co15) t547 (strOfNums t557) [.string (strOfNums t557)] (fun _ => True) (fun _ => False) rfl rfl ?aP (fun _ hk => hk.elim) ?aF ?aO ?aB ?aS ?aL ?_; (case aP => exact rfl); (case aB => exact (be_ HB.out)); (case aF => exact (fun _ _ => trivial)); (case aO => exact (kr_ HO550.out)); (case aS => exact (below_size (be_ HB.out))); (case aL => have := LMc13.out; omega); intro v561 w20 ho hb hg hat; rw [← Ny560.out] at ho; have n0_ := Aside0.mk (Kd.R_over' (kr_ HO559.out) (Kd.R_typed (kr_ HO550.out)) (by decide) hg); have n1_ := Aside0.mk (hb); have n2_ := Aside0.mk (ho); clear HO559; clear HB; clear HO550; have HO559 := n0_; have HB := n1_; have HO562 := n2_; clear n0_ n1_ n2_; clear ho hb hg hat))
    go_ret2
    exact ⟨_, by first | rfl | (simp [errW_none, errW_some] <;> rfl) | (simp only [← hji7]; first | rfl | (simp [errW_none, errW_some] <;> rfl)) | (simp [*, errW_none, errW_some] <;> rfl), by (with_reducible repeat (first | apply Kd.R_alloc | apply Kd.R_drewN | apply Kd.R_drew)); exact HO562.out, be_ HB.out⟩
  · replace c6 := Bool.eq_false_iff.mpr c6
    subst c6
    have H1 : (some ((([] : List ByteArray)), false)) = some (r1, r2) := by rw [if_neg (show ¬ (false = true) by decide)] at H; exact H
    clear H
    have H := H1
    clear H1
    obtain ⟨y563, hy563⟩ : ∃ y_ : List ByteArray, y_ = (([] : List ByteArray)) := ⟨_, rfl⟩
    replace H : (some (y563, false)) = some (r1, r2) := by first | (rw [hy563]; with_reducible exact H) | (have H2_ := (Option.bind_some _ _).symm.trans H; rw [hy563]; with_reducible exact H2_) | (have H2_ := (Option.bind_some _ _).symm.trans H; with_reducible exact H2_) | with_reducible exact H | (rw [hy563]; exact H) | exact H
    have Ny563 := Aside0.mk hy563
    clear hy563
    simp only [Option.some.injEq, Prod.mk.injEq] at H
    obtain ⟨rfl, rfl⟩ := H
    go_enter Try.func62, Try.ntmps62
    go_wp2_with (first | ((with_reducible refine gate_callee (f := 103) rfl ?_); refine goesL_ (some 17) rfl rfl Try.func103 (by kernel_rfl) rfl #[.slice A0 l0.length c0, .int .i64 a1, .int .i64 a2, .slice A3 l3.length c3] rfl al_ ?_; (with_reducible refine (spec_l4Hashed.calls k _ _ l0 a1 a2 _ _ l3 t547 false _ ?side1 ?side2 ?side3 ?side4 A5.out).mono ?_); (case side1 => exact kc_ HR0.out); (case side2 => exact HC0.out); (case side3 => exact kc_ HR3.out); (case side4 => exact HC3.out); rintro e w21 ⟨v549, rfl, ho0, hb⟩; refine ⟨_, rfl, ?_⟩; have n0_ := Aside0.mk (Kd.R_lower ho0 (below_size (be_ HB.out))); have n1_ := Aside0.mk (below_step (be_ HB.out) hb); clear HB; have HO550 := n0_; have HB := n1_; clear n0_ n1_; (try clear hb); (try clear hb2); (try clear hk); (try clear hi); (try clear ho0)) | ((with_reducible refine gate_dst (N := 22) rfl ?_); refine Kd.R_lit Kd.string _ 9 ?hg (N := 22) ?hd (xs := ([] : List ByteArray)) (inner := []) (ok := fun _ => True) (okp := fun _ => True) ?hr ?hp (fun _ hk => hk) trivial (Below.refl _ _) (Nat.le_refl _) (by simp) ?_; (case hd => rfl); (case hg => rfl); (case hr => first | (go_simp; done) | (go_simp; rfl)); (case hp => exact (Reps.none _ _)); intro v564 w22 ho23 hb hg_ hnew_; clear hg_ hnew_; (first | rw [← Ny563.out] at ho23 | (simp only [Int.reduceToNat] at ho23; rw [← Ny563.out] at ho23)); have n0_ := Aside0.mk (Kd.R_elder' (kr_ HO550.out) (Kd.R_base ho23) hb); have n1_ := Aside0.mk (Kd.R_lower (Kd.R_new' ho23 (Kd.R_lt (kr_ HO550.out))) (below_size (be_ HB.out))); have n2_ := Aside0.mk (below_step (be_ HB.out) hb); clear HO550; clear HB; have HO550 := n0_; have HO565 := n1_; have HB := n2_; clear n0_ n1_ n2_; clear hb ho23))
    go_ret2
    exact ⟨_, by first | rfl | (simp [errW_none, errW_some] <;> rfl) | (simp [*, errW_none, errW_some] <;> rfl), by (with_reducible repeat (first | apply Kd.R_alloc | apply Kd.R_drewN | apply Kd.R_drew)); exact Kd.R_mono HO565.out (fun _ hk => trivial), be_ HB.out⟩

end Go.Proofs.Ytgaalomhipfgjaa.P
