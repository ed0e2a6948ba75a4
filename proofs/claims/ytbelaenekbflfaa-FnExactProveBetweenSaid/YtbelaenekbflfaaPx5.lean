-- Written by wip/xp/xp.py over the kit's print; Lean checks it.
import Derived.Test.YtbelaenekbflfaaStr
import Derived.Test.YtbelaenekbflfaaPx0
import Derived.Test.YtbelaenekbflfaaPx1
import Derived.Test.YtbelaenekbflfaaPx4
namespace Go.Proofs.Ytbelaenekbflfaa.P
open Go.RowKit Go.Proofs.YtbelaenekbflfaaW.PrintWords Go.Proofs.YtbelaenekbflfaaW.PrintLast Go.Proofs.YtbelaenekbflfaaW.PrintMore
attribute [local go_sem] max2_int min2_int max_two min_two max_three min_three max_four min_four   -- for this text's walks alone
set_option linter.unusedVariables false
set_option linter.unusedSimpArgs false

/-! ###  spec_l4Path: function 47 -/
def spec_l4Path.f : Nat → List (S39) → Int → Option (List ByteArray)
  | 0, _, _ => none
  | k + 1, l0, a1 => if (l0.length : Int) < 2 then (some (([] : List ByteArray))) else ((spec_l4Half.f k (l0.length : Int)).bind fun t285 => (if a1 < t285 then (if 0 ≤ t285 then (if t285 ≤ (l0.length : Int) then ((spec_l4Path.f k (l0.take (t285 : Int).toNat) a1).bind fun t290 => ((spec_l4Inner.f k (l0.drop (t285 : Int).toNat)).bind fun t297 => (if t290.length < 8796093022208 then (some (t290 ++ [t297])) else (none)))) else (none)) else (none)) else (if 0 ≤ t285 then (if t285 ≤ (l0.length : Int) then ((spec_l4Path.f k (l0.drop (t285 : Int).toNat) (wrap64 (a1 - t285))).bind fun t305 => ((spec_l4Inner.f k (l0.take (t285 : Int).toNat)).bind fun t312 => (if t305.length < 8796093022208 then (some (t305 ++ [t312])) else (none)))) else (none)) else (none))))
def spec_l4Path.T5 : Bool × List (List Nat × List Nat) := (true, [([], []), ([], []), ([0, 1], [0, 1]), ([], []), ([2, 3], [2, 3]), ([], []), ([], []), ([5, 6], [5, 6]), ([7, 4], [7]), ([8], [8]), ([4, 9, 8], [4, 9]), ([10, 10, 0, 1, 2, 3, 4, 5, 6, 7, 8, 9, 10], [10])])
def spec_l4Path.B5 : List Nat := [0, 0, 3, 0, 15, 0, 0, 96, 255, 511, 1023, 2047]
theorem spec_l4Path.tab5 : rtab .any (opsOf Try.f47 5) = spec_l4Path.T5 := by kernel_rfl
theorem spec_l4Path.bits5 : waitsOk spec_l4Path.T5.2 spec_l4Path.B5 = true := by kernel_rfl
def spec_l4Path.T6 : Bool × List (List Nat × List Nat) := (true, [([], []), ([], []), ([0, 1], [0, 1]), ([], []), ([], []), ([3, 4], [3, 4]), ([2, 5], [2, 5]), ([], []), ([], []), ([7, 8], [7, 8]), ([9, 6], [9]), ([10], [10]), ([6, 11, 10], [6, 11]), ([12, 12, 0, 1, 2, 3, 4, 5, 6, 7, 8, 9, 10, 11, 12], [12])])
def spec_l4Path.B6 : List Nat := [0, 0, 3, 0, 0, 24, 63, 0, 0, 384, 1023, 2047, 4095, 8191]
theorem spec_l4Path.tab6 : rtab .any (opsOf Try.f47 6) = spec_l4Path.T6 := by kernel_rfl
theorem spec_l4Path.bits6 : waitsOk spec_l4Path.T6.2 spec_l4Path.B6 = true := by kernel_rfl
set_option maxHeartbeats 8000000 in
set_option maxRecDepth 100000 in
theorem spec_l4Path.calls (k : Nat) : ∀ (A0 : Option Addr) (c0 : Nat) (l0 : List (S39)) (a1 : Int) (r : List ByteArray) (w : World) (hr0 : Kd.C k39 w A0 l0.length l0) (hc0 : l0.length ≤ c0) (h : spec_l4Path.f k l0 a1 = some r),
  Calls Try.prog 47 #[.slice A0 l0.length c0, .int .i64 a1] w fun e w' => ∃ v0_ : Value, e = .returned (v0_) ∧ Kd.R Kd.string 9 w' w.heap.size (fun _ => True) v0_ r ∧ Below w.heap.size w w' := by
  induction k using Nat.strongRecOn with
  | _ k ih =>
  intro A0 c0 l0 a1 r w hr0 hc0 h
  cases k with
  | zero => exact absurd h (by simp [spec_l4Path.f])
  | succ k =>
  simp only [spec_l4Path.f] at h
  have HR0 := Aside0.mk hr0
  have HC0 := Aside0.mk hc0
  clear hr0 hc0
  have HB := Aside0.mk (Below.refl w.heap.size w)
  have H : (if (l0.length : Int) < 2 then (some (([] : List ByteArray))) else ((spec_l4Half.f k (l0.length : Int)).bind fun t285 => (if a1 < t285 then (if 0 ≤ t285 then (if t285 ≤ (l0.length : Int) then ((spec_l4Path.f k (l0.take (t285 : Int).toNat) a1).bind fun t290 => ((spec_l4Inner.f k (l0.drop (t285 : Int).toNat)).bind fun t297 => (if t290.length < 8796093022208 then (some (t290 ++ [t297])) else (none)))) else (none)) else (none)) else (if 0 ≤ t285 then (if t285 ≤ (l0.length : Int) then ((spec_l4Path.f k (l0.drop (t285 : Int).toNat) (wrap64 (a1 - t285))).bind fun t305 => ((spec_l4Inner.f k (l0.take (t285 : Int).toNat)).bind fun t312 => (if t305.length < 8796093022208 then (some (t305 ++ [t312])) else (none)))) else (none)) else (none))))) = some r := h
  clear h
  by_cases c3 : (l0.length : Int) < 2
  · rw [if_pos c3] at H
    have c3b0 : decide ((l0.length : Int) < 2) = true := decide_eq_true c3
    have c3b1 : decide (l0.length < 2) = true := decide_eq_true (by omega)
    clear c3
    obtain ⟨y282, hy282⟩ : ∃ y_ : List ByteArray, y_ = (([] : List ByteArray)) := ⟨_, rfl⟩
    replace H : (some y282) = some r := by first | (rw [hy282]; with_reducible exact H) | (have H2_ := (Option.bind_some _ _).symm.trans H; rw [hy282]; with_reducible exact H2_) | (have H2_ := (Option.bind_some _ _).symm.trans H; with_reducible exact H2_) | with_reducible exact H | (rw [hy282]; exact H) | exact H
    have Ny282 := Aside0.mk hy282
    clear hy282
    obtain rfl := Option.some.inj H
    go_enter Try.func47, Try.ntmps47
    go_wp2_with (first | ((with_reducible refine gate_dst (N := 9) rfl ?_); refine Kd.R_lit Kd.string _ 9 ?hg (N := 9) ?hd (xs := ([] : List ByteArray)) (inner := []) (ok := fun _ => True) (okp := fun _ => True) ?hr ?hp (fun _ hk => hk) trivial (Below.refl _ _) (Nat.le_refl _) (by simp) ?_; (case hd => rfl); (case hg => rfl); (case hr => first | (go_simp; done) | (go_simp; rfl)); (case hp => exact (Reps.none _ _)); intro v283 w4 ho5 hb hg_ hnew_; clear hg_ hnew_; (first | rw [← Ny282.out] at ho5 | (simp only [Int.reduceToNat] at ho5; rw [← Ny282.out] at ho5)); have n0_ := Aside0.mk (Kd.R_lower ho5 (below_size (be_ HB.out))); have n1_ := Aside0.mk (below_step (be_ HB.out) hb); clear HB; have HO284 := n0_; have HB := n1_; clear n0_ n1_; clear hb ho5))
    go_ret
    exact ⟨_, by first | rfl | (simp [errW_none, errW_some] <;> rfl) | (simp [*, errW_none, errW_some] <;> rfl), by (with_reducible repeat (first | apply Kd.R_alloc | apply Kd.R_drewN | apply Kd.R_drew)); exact HO284.out, be_ HB.out⟩
  · rw [if_neg c3] at H
    have c3b0 : decide ((l0.length : Int) < 2) = false := decide_eq_false c3
    have c3b1 : decide (l0.length < 2) = false := decide_eq_false (by omega)
    clear c3
    replace H := Option.bind_eq_some_iff.mp H
    obtain ⟨t285, A60, H⟩ := H
    have A6 := Aside0.mk A60
    clear A60
    by_cases c7 : a1 < t285
    · rw [if_pos c7] at H
      have c7b0 : decide (a1 < t285) = true := decide_eq_true c7
      clear c7
      by_cases c8 : 0 ≤ t285
      rotate_left
      · rw [if_neg c8] at H; exact absurd H (by simp)
      rw [if_pos c8] at H
      have c8b0 := eq_true c8
      have c8b1 : decide (0 ≤ t285) = true := decide_eq_true c8
      clear c8
      by_cases c9 : t285 ≤ (l0.length : Int)
      rotate_left
      · rw [if_neg c9] at H; exact absurd H (by simp)
      rw [if_pos c9] at H
      have c9b0 := eq_true c9
      have c9b1 : decide (t285 ≤ (l0.length : Int)) = true := decide_eq_true c9
      clear c9
      obtain ⟨y286, hy286⟩ : ∃ y_ : List (S39), y_ = (l0.take (t285 : Int).toNat) := ⟨_, rfl⟩
      replace H : ((spec_l4Path.f k y286 a1).bind fun t290 => ((spec_l4Inner.f k (l0.drop (t285 : Int).toNat)).bind fun t297 => (if t290.length < 8796093022208 then (some (t290 ++ [t297])) else (none)))) = some r := by first | (rw [hy286]; with_reducible exact H) | (have H2_ := (Option.bind_some _ _).symm.trans H; rw [hy286]; with_reducible exact H2_) | (have H2_ := (Option.bind_some _ _).symm.trans H; with_reducible exact H2_) | with_reducible exact H | (rw [hy286]; exact H) | exact H
      have Ny286 := Aside0.mk hy286
      clear hy286
      replace H := Option.bind_eq_some_iff.mp H
      obtain ⟨t290, A100, H⟩ := H
      have A10 := Aside0.mk A100
      clear A100
      have c11b0 := eq_true (of_decide_eq_true (by first | (with_reducible assumption) | assumption) : 0 ≤ t285)
      have c12b0 := eq_true (of_decide_eq_true (by first | (with_reducible assumption) | assumption) : t285 ≤ (l0.length : Int))
      obtain ⟨y293, hy293⟩ : ∃ y_ : List (S39), y_ = (l0.drop (t285 : Int).toNat) := ⟨_, rfl⟩
      replace H : ((spec_l4Inner.f k y293).bind fun t297 => (if t290.length < 8796093022208 then (some (t290 ++ [t297])) else (none))) = some r := by first | (rw [hy293]; with_reducible exact H) | (have H2_ := (Option.bind_some _ _).symm.trans H; rw [hy293]; with_reducible exact H2_) | (have H2_ := (Option.bind_some _ _).symm.trans H; with_reducible exact H2_) | with_reducible exact H | (rw [hy293]; exact H) | exact H
      have Ny293 := Aside0.mk hy293
      clear hy293
      replace H := Option.bind_eq_some_iff.mp H
      obtain ⟨t297, A130, H⟩ := H
      have A13 := Aside0.mk A130
      clear A130
      by_cases c14 : t290.length < 8796093022208
      rotate_left
      · rw [if_neg c14] at H; exact absurd H (by simp)
      rw [if_pos c14] at H
      have LMc14 := Aside0.mk c14
      clear c14
      obtain ⟨y298, hy298⟩ : ∃ y_ : List ByteArray, y_ = (t290 ++ [t297]) := ⟨_, rfl⟩
      replace H : (some y298) = some r := by first | (rw [hy298]; with_reducible exact H) | (have H2_ := (Option.bind_some _ _).symm.trans H; rw [hy298]; with_reducible exact H2_) | (have H2_ := (Option.bind_some _ _).symm.trans H; with_reducible exact H2_) | with_reducible exact H | (rw [hy298]; exact H) | exact H
      have Ny298 := Aside0.mk hy298
      clear hy298
      obtain rfl := Option.some.inj H
      go_enter Try.func47, Try.ntmps47
      try go_wp2_with (first | ((with_reducible refine gate_callee (f := 76) rfl ?_); refine goesL_ (some 12) rfl rfl Try.func76 (by kernel_rfl) rfl #[.int .i64 (l0.length : Int)] rfl al_ ?_; (with_reducible refine (spec_l4Half.calls k (l0.length : Int) t285 _ A6.out).mono ?_); rintro e w' ⟨rfl, ⟨nd, rfl⟩⟩; refine ⟨_, rfl, ?_⟩))
      have n0_ := Aside0.mk (below_drew1 (pw_below_drewN HB.out nd))
      clear HB
      have HB := n0_
      clear n0_
      have q16 : (t285 : Int) ≤ ((l0.length : Int) : Int) := of_decide_eq_true (by first | (with_reducible assumption) | assumption)
      obtain ⟨i016, hi016, _, hsz16, _⟩ := info_parts info39
      have hroom16 : l0.length ≤ c0 := HC0.out
      have hC16 : Kd.C k39 _ A0 l0.length l0 := HR0.out
      have hcut16 := cut_to (P := Try.prog) 31 39 .i64 Try.underlying31 hi016 A0 l0.length c0 t285 (of_decide_eq_true (by first | (with_reducible assumption) | assumption)) q16 hroom16
      have hr16 := Kd.C_take (m := (t285 : Int).toNat) hC16 (by omega)
      have hy16 : y286.length = (t285 : Int).toNat := (by rw [Ny286.out, List.length_take]; omega)
      rw [← Ny286.out] at hr16
      rw [← hy16] at hcut16
      have HR289 := Aside0.mk hr16
      have HC289 := Aside0.mk (show y286.length ≤ c0 from by omega)
      clear hr16 hC16 hroom16 hi016 hsz16
      have KY16 := Aside0.mk hy16
      clear hy16
      replace q16 := eq_true q16
      have q17 : (t285 : Int) ≤ ((l0.length : Int) : Int) := of_decide_eq_true (by first | (with_reducible assumption) | assumption)
      obtain ⟨i017, hi017, _, hsz17, _⟩ := info_parts info39
      have hroom17 : l0.length ≤ c0 := HC0.out
      have hC17 : Kd.C k39 _ A0 l0.length l0 := HR0.out
      have q017 : (0 : Int) ≤ (t285 : Int) := of_decide_eq_true (by first | (with_reducible assumption) | assumption)
      have hcut17 := cut_from (P := Try.prog) 31 39 .i64 Try.underlying31 hi017 2 hsz17 A0 l0.length c0 t285 q017 q17
      have hr17 := Kd.C_drop (m := (t285 : Int).toNat) (c := c0) hC17 (by omega) hroom17
      obtain ⟨A17, hA17⟩ : ∃ A1, A1 = (if c0 = (t285 : Int).toNat then A0 else (A0 : Option Addr).map (·.add ((t285 : Int).toNat * 2))) := ⟨_, rfl⟩
      obtain ⟨c17, hc17⟩ : ∃ c1, c1 = c0 - (t285 : Int).toNat := ⟨_, rfl⟩
      have hy17 : y293.length = l0.length - (t285 : Int).toNat := (by rw [Ny293.out, List.length_drop] <;> omega)
      rw [show (l0).drop (t285 : Int).toNat = y293 from Ny293.out.symm] at hr17
      replace hr17 : Kd.C k39 _ A17 y293.length y293 := (by rw [hA17]; exact hr17)
      rw [← hy17, ← hA17, ← hc17] at hcut17
      have HR296 := Aside0.mk hr17
      have HC296 := Aside0.mk (show y293.length ≤ c17 from by rw [hy17, hc17]; exact Nat.sub_le_sub_right hroom17 _)
      clear hr17 hC17 hroom17 hi017 hsz17 hc17
      have KY17 := Aside0.mk hy17
      have KA17 := Aside0.mk hA17
      clear hy17 hA17
      replace q17 := eq_true q17
      refine start_ (n := 12) (S := fun w' => True) (ds := []) (bq_ 0 12) (by kernel_rfl) rfl rfl trivial (fun hHeld => ?_); refine with_tabW spec_l4Path.tab5 spec_l4Path.bits5 (fun HT_ HW_ => ?_)
      generalize (World.drewN w nd).drew = w15 at HB HR289 HR296 hHeld ⊢
      refine pu_ 0 (some 16) (bq_ 1 11) HT_ ?_
      refine pu_ 1 (some 17) (bq_ 2 10) HT_ ?_
      refine pu_ 2 (some 18) (bq_ 3 9) HT_ ?_
      refine pu_ 3 (some 19) (bq_ 4 8) HT_ ?_
      refine pu_ 5 (some 21) #[true, true, true, true, false, true, false, false, false, false, false, false] HT_ ?_
      refine pu_ 6 (some 22) #[true, true, true, true, false, true, true, false, false, false, false, false] HT_ ?_
      refine pu_ 7 (some 23) #[true, true, true, true, false, true, true, true, false, false, false, false] HT_ ?_
      refine on_ 4 (some 20) (bq_ 8 4) HT_ (fun K hK => ?_)
      refine goes_ Try.func47 (by kernel_rfl) rfl #[.slice A0 y286.length c0, .int .i64 a1] (by rfl) rfl rfl al_ ?_
      with_reducible refine (ih k (by omega) _ _ y286 a1 t290 _ ?side1 ?side2 A10.out).mono ?_
      (case side1 => exact kc_ (Kd.C_below HR289.out HB.out))
      (case side2 => exact HC289.out)
      rintro e w18 ⟨v291, rfl, ho0, hb⟩
      refine ⟨_, rfl, ?_⟩
      have n0_ := Aside0.mk (Kd.R_lower ho0 (below_size (be_ HB.out)))
      have n1_ := Aside0.mk (below_step (be_ HB.out) hb)
      clear HB
      have HO292 := n0_
      have HB := n1_
      clear n0_ n1_
      (try clear hb)
      (try clear hb2)
      (try clear hk)
      (try clear hi)
      (try clear ho0)
      refine hK.out _ _ trivial (fun hHeld => ?_)
      clear hK K
      refine nm_ ?_
      refine on_ 8 (some 24) (bq_ 9 3) HT_ (fun K hK => ?_)
      refine goes_ Try.func77 (by kernel_rfl) rfl #[.slice A17 y293.length c17] (by rfl) rfl rfl al_ ?_
      with_reducible refine (spec_l4Inner.calls k _ _ y293 t297 _ ?side1 ?side2 A13.out).mono ?_
      (case side1 => exact kc_ (Kd.C_below HR296.out HB.out))
      (case side2 => exact HC296.out)
      rintro e w19 ⟨rfl, hb⟩
      refine ⟨_, rfl, ?_⟩
      have n0_ := Aside0.mk (Kd.R_below (kr_ HO292.out) hb)
      have n1_ := Aside0.mk (below_step (be_ HB.out) hb)
      clear HO292
      clear HB
      have HO292 := n0_
      have HB := n1_
      clear n0_ n1_
      (try clear hb)
      (try clear hb2)
      (try clear hk)
      (try clear hi)
      refine hK.out _ _ trivial (fun hHeld => ?_)
      clear hK K
      refine nm_ ?_
      refine on_ 9 (some 25) (bq_ 10 2) HT_ (fun K hK => ?_)
      refine value_ (w1 := ?_) (v := ?_) (by rfl) rfl ?_ ?_
      rotate_left 2
      · go_simp
        constructor
        · rfl
        · rfl
      refine hK.out _ _ trivial (fun hHeld => ?_)
      clear hK K
      refine nm_ ?_
      refine on_ 10 (some 26) (bq_ 11 1) HT_ (fun K hK => ?_)
      refine Kd.R_append_step Kd.string (w0 := w) w.heap.size (by rfl) (.tmp 20) (.tmp 25) 34 9 (.string ⟨#[]⟩) 16 rfl Try.underlying34 info9 rfl (by decide) (by omega) v291 t290 t297 [.string t297] (fun _ => True) (fun _ => False) rfl rfl ?aP (fun _ hk => hk.elim) ?aF ?aO ?aB ?aS ?aL ?_
      (case aP => exact rfl)
      (case aB => exact (be_ HB.out))
      (case aF => exact (fun _ _ => trivial))
      (case aO => exact (kr_ HO292.out))
      (case aS => exact (below_size (be_ HB.out)))
      (case aL => have := LMc14.out; omega)
      intro v299 w20 ho hb hg hat
      rw [← Ny298.out] at ho
      have n0_ := Aside0.mk (hb)
      have n1_ := Aside0.mk (ho)
      clear HB
      clear HO292
      have HB := n0_
      have HO300 := n1_
      clear n0_ n1_
      clear ho hb hg hat
      refine hK.out _ _ trivial (fun hHeld => ?_)
      clear hK K
      refine nm_ ?_
      refine pu_ 11 (some 4) (bq_ 12 0) HT_ ?_
      refine done_ (done_of HT_.out (by kernel_rfl)) ?_
      try go_wp2
      go_ret
      exact ⟨_, by first | rfl | (simp [errW_none, errW_some] <;> rfl) | (simp [*, errW_none, errW_some] <;> rfl), by (with_reducible repeat (first | apply Kd.R_alloc | apply Kd.R_drewN | apply Kd.R_drew)); exact HO300.out, be_ HB.out⟩
    · rw [if_neg c7] at H
      have c7b0 : decide (a1 < t285) = false := decide_eq_false c7
      clear c7
      by_cases c21 : 0 ≤ t285
      rotate_left
      · rw [if_neg c21] at H; exact absurd H (by simp)
      rw [if_pos c21] at H
      have c21b0 := eq_true c21
      have c21b1 : decide (0 ≤ t285) = true := decide_eq_true c21
      clear c21
      by_cases c22 : t285 ≤ (l0.length : Int)
      rotate_left
      · rw [if_neg c22] at H; exact absurd H (by simp)
      rw [if_pos c22] at H
      have c22b0 := eq_true c22
      have c22b1 : decide (t285 ≤ (l0.length : Int)) = true := decide_eq_true c22
      clear c22
      obtain ⟨y301, hy301⟩ : ∃ y_ : List (S39), y_ = (l0.drop (t285 : Int).toNat) := ⟨_, rfl⟩
      replace H : ((spec_l4Path.f k y301 (wrap64 (a1 - t285))).bind fun t305 => ((spec_l4Inner.f k (l0.take (t285 : Int).toNat)).bind fun t312 => (if t305.length < 8796093022208 then (some (t305 ++ [t312])) else (none)))) = some r := by first | (rw [hy301]; with_reducible exact H) | (have H2_ := (Option.bind_some _ _).symm.trans H; rw [hy301]; with_reducible exact H2_) | (have H2_ := (Option.bind_some _ _).symm.trans H; with_reducible exact H2_) | with_reducible exact H | (rw [hy301]; exact H) | exact H
      have Ny301 := Aside0.mk hy301
      clear hy301
      replace H := Option.bind_eq_some_iff.mp H
      obtain ⟨t305, A230, H⟩ := H
      have A23 := Aside0.mk A230
      clear A230
      have c24b0 := eq_true (of_decide_eq_true (by first | (with_reducible assumption) | assumption) : 0 ≤ t285)
      have c25b0 := eq_true (of_decide_eq_true (by first | (with_reducible assumption) | assumption) : t285 ≤ (l0.length : Int))
      obtain ⟨y308, hy308⟩ : ∃ y_ : List (S39), y_ = (l0.take (t285 : Int).toNat) := ⟨_, rfl⟩
      replace H : ((spec_l4Inner.f k y308).bind fun t312 => (if t305.length < 8796093022208 then (some (t305 ++ [t312])) else (none))) = some r := by first | (rw [hy308]; with_reducible exact H) | (have H2_ := (Option.bind_some _ _).symm.trans H; rw [hy308]; with_reducible exact H2_) | (have H2_ := (Option.bind_some _ _).symm.trans H; with_reducible exact H2_) | with_reducible exact H | (rw [hy308]; exact H) | exact H
      have Ny308 := Aside0.mk hy308
      clear hy308
      replace H := Option.bind_eq_some_iff.mp H
      obtain ⟨t312, A260, H⟩ := H
      have A26 := Aside0.mk A260
      clear A260
      by_cases c27 : t305.length < 8796093022208
      rotate_left
      · rw [if_neg c27] at H; exact absurd H (by simp)
      rw [if_pos c27] at H
      have LMc27 := Aside0.mk c27
      clear c27
      obtain ⟨y313, hy313⟩ : ∃ y_ : List ByteArray, y_ = (t305 ++ [t312]) := ⟨_, rfl⟩
      replace H : (some y313) = some r := by first | (rw [hy313]; with_reducible exact H) | (have H2_ := (Option.bind_some _ _).symm.trans H; rw [hy313]; with_reducible exact H2_) | (have H2_ := (Option.bind_some _ _).symm.trans H; with_reducible exact H2_) | with_reducible exact H | (rw [hy313]; exact H) | exact H
      have Ny313 := Aside0.mk hy313
      clear hy313
      obtain rfl := Option.some.inj H
      go_enter Try.func47, Try.ntmps47
      try go_wp2_with (first | ((with_reducible refine gate_callee (f := 76) rfl ?_); refine goesL_ (some 12) rfl rfl Try.func76 (by kernel_rfl) rfl #[.int .i64 (l0.length : Int)] rfl al_ ?_; (with_reducible refine (spec_l4Half.calls k (l0.length : Int) t285 _ A6.out).mono ?_); rintro e w' ⟨rfl, ⟨nd, rfl⟩⟩; refine ⟨_, rfl, ?_⟩))
      have n0_ := Aside0.mk (below_drew1 (pw_below_drewN HB.out nd))
      clear HB
      have HB := n0_
      clear n0_
      have q29 : (t285 : Int) ≤ ((l0.length : Int) : Int) := of_decide_eq_true (by first | (with_reducible assumption) | assumption)
      obtain ⟨i029, hi029, _, hsz29, _⟩ := info_parts info39
      have hroom29 : l0.length ≤ c0 := HC0.out
      have hC29 : Kd.C k39 _ A0 l0.length l0 := HR0.out
      have q029 : (0 : Int) ≤ (t285 : Int) := of_decide_eq_true (by first | (with_reducible assumption) | assumption)
      have hcut29 := cut_from (P := Try.prog) 31 39 .i64 Try.underlying31 hi029 2 hsz29 A0 l0.length c0 t285 q029 q29
      have hr29 := Kd.C_drop (m := (t285 : Int).toNat) (c := c0) hC29 (by omega) hroom29
      obtain ⟨A29, hA29⟩ : ∃ A1, A1 = (if c0 = (t285 : Int).toNat then A0 else (A0 : Option Addr).map (·.add ((t285 : Int).toNat * 2))) := ⟨_, rfl⟩
      obtain ⟨c29, hc29⟩ : ∃ c1, c1 = c0 - (t285 : Int).toNat := ⟨_, rfl⟩
      have hy29 : y301.length = l0.length - (t285 : Int).toNat := (by rw [Ny301.out, List.length_drop] <;> omega)
      rw [show (l0).drop (t285 : Int).toNat = y301 from Ny301.out.symm] at hr29
      replace hr29 : Kd.C k39 _ A29 y301.length y301 := (by rw [hA29]; exact hr29)
      rw [← hy29, ← hA29, ← hc29] at hcut29
      have HR304 := Aside0.mk hr29
      have HC304 := Aside0.mk (show y301.length ≤ c29 from by rw [hy29, hc29]; exact Nat.sub_le_sub_right hroom29 _)
      clear hr29 hC29 hroom29 hi029 hsz29 hc29
      have KY29 := Aside0.mk hy29
      have KA29 := Aside0.mk hA29
      clear hy29 hA29
      replace q29 := eq_true q29
      have q30 : (t285 : Int) ≤ ((l0.length : Int) : Int) := of_decide_eq_true (by first | (with_reducible assumption) | assumption)
      obtain ⟨i030, hi030, _, hsz30, _⟩ := info_parts info39
      have hroom30 : l0.length ≤ c0 := HC0.out
      have hC30 : Kd.C k39 _ A0 l0.length l0 := HR0.out
      have hcut30 := cut_to (P := Try.prog) 31 39 .i64 Try.underlying31 hi030 A0 l0.length c0 t285 (of_decide_eq_true (by first | (with_reducible assumption) | assumption)) q30 hroom30
      have hr30 := Kd.C_take (m := (t285 : Int).toNat) hC30 (by omega)
      have hy30 : y308.length = (t285 : Int).toNat := (by rw [Ny308.out, List.length_take]; omega)
      rw [← Ny308.out] at hr30
      rw [← hy30] at hcut30
      have HR311 := Aside0.mk hr30
      have HC311 := Aside0.mk (show y308.length ≤ c0 from by omega)
      clear hr30 hC30 hroom30 hi030 hsz30
      have KY30 := Aside0.mk hy30
      clear hy30
      replace q30 := eq_true q30
      refine start_ (n := 14) (S := fun w' => True) (ds := []) (bq_ 0 14) (by kernel_rfl) rfl rfl trivial (fun hHeld => ?_); refine with_tabW spec_l4Path.tab6 spec_l4Path.bits6 (fun HT_ HW_ => ?_)
      generalize (World.drewN w nd).drew = w28 at HB HR304 HR311 hHeld ⊢
      refine pu_ 0 (some 27) (bq_ 1 13) HT_ ?_
      refine pu_ 1 (some 28) (bq_ 2 12) HT_ ?_
      refine pu_ 2 (some 29) (bq_ 3 11) HT_ ?_
      refine pu_ 3 (some 30) (bq_ 4 10) HT_ ?_
      refine pu_ 4 (some 31) (bq_ 5 9) HT_ ?_
      refine pu_ 5 (some 32) (bq_ 6 8) HT_ ?_
      refine pu_ 7 (some 34) #[true, true, true, true, true, true, false, true, false, false, false, false, false, false] HT_ ?_
      refine pu_ 8 (some 35) #[true, true, true, true, true, true, false, true, true, false, false, false, false, false] HT_ ?_
      refine pu_ 9 (some 36) #[true, true, true, true, true, true, false, true, true, true, false, false, false, false] HT_ ?_
      refine on_ 6 (some 33) (bq_ 10 4) HT_ (fun K hK => ?_)
      refine goes_ Try.func47 (by kernel_rfl) rfl #[.slice A29 y301.length c29, .int .i64 (wrap64 (a1 - t285))] (by rfl) rfl rfl al_ ?_
      with_reducible refine (ih k (by omega) _ _ y301 (wrap64 (a1 - t285)) t305 _ ?side1 ?side2 A23.out).mono ?_
      (case side1 => exact kc_ (Kd.C_below HR304.out HB.out))
      (case side2 => exact HC304.out)
      rintro e w31 ⟨v306, rfl, ho0, hb⟩
      refine ⟨_, rfl, ?_⟩
      have n0_ := Aside0.mk (Kd.R_lower ho0 (below_size (be_ HB.out)))
      have n1_ := Aside0.mk (below_step (be_ HB.out) hb)
      clear HB
      have HO307 := n0_
      have HB := n1_
      clear n0_ n1_
      (try clear hb)
      (try clear hb2)
      (try clear hk)
      (try clear hi)
      (try clear ho0)
      refine hK.out _ _ trivial (fun hHeld => ?_)
      clear hK K
      refine nm_ ?_
      refine on_ 10 (some 37) (bq_ 11 3) HT_ (fun K hK => ?_)
      refine goes_ Try.func77 (by kernel_rfl) rfl #[.slice A0 y308.length c0] (by rfl) rfl rfl al_ ?_
      with_reducible refine (spec_l4Inner.calls k _ _ y308 t312 _ ?side1 ?side2 A26.out).mono ?_
      (case side1 => exact kc_ (Kd.C_below HR311.out HB.out))
      (case side2 => exact HC311.out)
      rintro e w32 ⟨rfl, hb⟩
      refine ⟨_, rfl, ?_⟩
      have n0_ := Aside0.mk (Kd.R_below (kr_ HO307.out) hb)
      have n1_ := Aside0.mk (below_step (be_ HB.out) hb)
      clear HO307
      clear HB
      have HO307 := n0_
      have HB := n1_
      clear n0_ n1_
      (try clear hb)
      (try clear hb2)
      (try clear hk)
      (try clear hi)
      refine hK.out _ _ trivial (fun hHeld => ?_)
      clear hK K
      refine nm_ ?_
      refine on_ 11 (some 38) (bq_ 12 2) HT_ (fun K hK => ?_)
      refine value_ (w1 := ?_) (v := ?_) (by rfl) rfl ?_ ?_
      rotate_left 2
      · go_simp
        constructor
        · rfl
        · rfl
      refine hK.out _ _ trivial (fun hHeld => ?_)
      clear hK K
      refine nm_ ?_
      refine on_ 12 (some 39) (bq_ 13 1) HT_ (fun K hK => ?_)
      refine Kd.R_append_step Kd.string (w0 := w) w.heap.size (by rfl) (.tmp 33) (.tmp 38) 34 9 (.string ⟨#[]⟩) 16 rfl Try.underlying34 info9 rfl (by decide) (by omega) v306 t305 t312 [.string t312] (fun _ => True) (fun _ => False) rfl rfl ?aP (fun _ hk => hk.elim) ?aF ?aO ?aB ?aS ?aL ?_
      (case aP => exact rfl)
      (case aB => exact (be_ HB.out))
      (case aF => exact (fun _ _ => trivial))
      (case aO => exact (kr_ HO307.out))
      (case aS => exact (below_size (be_ HB.out)))
      (case aL => have := LMc27.out; omega)
      intro v314 w33 ho hb hg hat
      rw [← Ny313.out] at ho
      have n0_ := Aside0.mk (hb)
      have n1_ := Aside0.mk (ho)
      clear HB
      clear HO307
      have HB := n0_
      have HO315 := n1_
      clear n0_ n1_
      clear ho hb hg hat
      refine hK.out _ _ trivial (fun hHeld => ?_)
      clear hK K
      refine nm_ ?_
      refine pu_ 13 (some 4) (bq_ 14 0) HT_ ?_
      refine done_ (done_of HT_.out (by kernel_rfl)) ?_
      try go_wp2
      go_ret
      exact ⟨_, by first | rfl | (simp [errW_none, errW_some] <;> rfl) | (simp [*, errW_none, errW_some] <;> rfl), by (with_reducible repeat (first | apply Kd.R_alloc | apply Kd.R_drewN | apply Kd.R_drew)); exact HO315.out, be_ HB.out⟩

/-! ###  spec_ProveBetween: function 19 -/
mutual
def spec_ProveBetween.j1 : Nat → List (S39) → ByteArray → ByteArray → Int → Int → Int → Option (Int × Int × (List (S79)))
  | 0, _, _, _, _, _, _ => none
  | k + 1, x0, x1, x2, x8, x319000, x319001 => spec_ProveBetween.l1 k x0 x1 x2 x8 x8 x319000 x319001
def spec_ProveBetween.j3 : Nat → List (S39) → Int → Int → Int → Int → Option (Int × Int × (List (S79)))
  | 0, _, _, _, _, _ => none
  | k + 1, x0, x8, x9, x319000, x319001 => if x8 > 0 then (spec_ProveBetween.j4 k x0 (wrap64 (x8 - 1)) x9 x319000 x319001) else (spec_ProveBetween.j4 k x0 x8 x9 x319000 x319001)
def spec_ProveBetween.j4 : Nat → List (S39) → Int → Int → Int → Int → Option (Int × Int × (List (S79)))
  | 0, _, _, _, _, _ => none
  | k + 1, x0, x8, x9, x319000, x319001 => if x9 < (x0.length : Int) then (spec_ProveBetween.j5 k x0 x8 (wrap64 (x9 + 1)) x319000 x319001) else (spec_ProveBetween.j5 k x0 x8 x9 x319000 x319001)
def spec_ProveBetween.j5 : Nat → List (S39) → Int → Int → Int → Int → Option (Int × Int × (List (S79)))
  | 0, _, _, _, _, _ => none
  | k + 1, x0, x8, x9, x319000, x319001 => if x8 < x9 then (spec_ProveBetween.j6 k x0 x8 x9 x319000 x8) else (spec_ProveBetween.j6 k x0 x8 x9 x319000 x319001)
def spec_ProveBetween.j6 : Nat → List (S39) → Int → Int → Int → Int → Option (Int × Int × (List (S79)))
  | 0, _, _, _, _, _ => none
  | k + 1, x0, x8, x9, x319000, x319001 => spec_ProveBetween.l2 k x0 x9 x8 x319000 x319001 ([] : List (S79))
def spec_ProveBetween.l2 : Nat → List (S39) → Int → Int → Int → Int → List (S79) → Option (Int × Int × (List (S79)))
  | 0, _, _, _, _, _, _ => none
  | k + 1, x0, x9, x10, x319000, x319001, x319002 => if x10 < x9 then (if 0 ≤ x10 then (if x10 < (x0.length : Int) then ((spec_l4Path.f k x0 x10).bind fun t323 => (if x319002.length < 2513169434916 then (spec_ProveBetween.l2 k x0 x9 (wrap64 (x10 + 1)) x319000 x319001 (x319002 ++ [(⟨(⟨(rd_T39 x0 x10).f0, (rd_T39 x0 x10).f1⟩ : S39), t323⟩ : S79)])) else (none))) else (none)) else (none)) else (some (x319000, x319001, x319002))
def spec_ProveBetween.l1 : Nat → List (S39) → ByteArray → ByteArray → Int → Int → Int → Int → Option (Int × Int × (List (S79)))
  | 0, _, _, _, _, _, _, _ => none
  | k + 1, x0, x1, x2, x8, x9, x319000, x319001 => if x9 < (x0.length : Int) then (if 0 ≤ x9 then ((spec_l3In.f ((rd_T39 x0 x9).f0) x1 x2).bind fun t321 => (if t321 = true then (spec_ProveBetween.l1 k x0 x1 x2 x8 (wrap64 (x9 + 1)) x319000 x319001) else (spec_ProveBetween.j3 k x0 x8 x9 x319000 x319001))) else (none)) else (spec_ProveBetween.j3 k x0 x8 x9 x319000 x319001)
def spec_ProveBetween.l0 : Nat → List (S39) → ByteArray → ByteArray → Int → Int → Int → Option (Int × Int × (List (S79)))
  | 0, _, _, _, _, _, _ => none
  | k + 1, x0, x1, x2, x8, x319000, x319001 => if x8 < (x0.length : Int) then (if 0 ≤ x8 then (if (Op.bytesLess (((rd_T39 x0 x8).f0).toList) x1.toList) = true then (spec_ProveBetween.l0 k x0 x1 x2 (wrap64 (x8 + 1)) x319000 x319001) else (spec_ProveBetween.j1 k x0 x1 x2 x8 x319000 x319001)) else (none)) else (spec_ProveBetween.j1 k x0 x1 x2 x8 x319000 x319001)
end
def spec_ProveBetween.f (k : Nat) (l0 : List (S39)) (a1 : ByteArray) (a2 : ByteArray) : Option (Int × Int × (List (S79))) := (spec_PairsOk.f k l0).bind fun t317 => (if t317 = true then (spec_ProveBetween.l0 k l0 a1 a2 0 (l0.length : Int) 0) else (some (0, 0, ([] : List (S79)))))
def spec_ProveBetween.T19 : Bool × List (List Nat × List Nat) := (true, [([], []), ([0], [0]), ([], []), ([], []), ([2, 3], [2, 3]), ([4], [4]), ([], []), ([], []), ([6, 7], [6, 7]), ([5, 8], [5, 8]), ([9], [9]), ([1, 10, 8], [1, 10]), ([0, 1, 2, 3, 4, 5, 6, 7, 8, 9, 10, 11], []), ([12, 11, 11, 0, 1, 2, 3, 4, 5, 6, 7, 8, 9, 10, 11], [11, 12])])
def spec_ProveBetween.B19 : List Nat := [0, 1, 0, 0, 12, 28, 0, 0, 192, 508, 1020, 2047, 4095, 8191]
theorem spec_ProveBetween.tab19 : rtab .any (opsOf Try.f19 19) = spec_ProveBetween.T19 := by kernel_rfl
theorem spec_ProveBetween.bits19 : waitsOk spec_ProveBetween.T19.2 spec_ProveBetween.B19 = true := by kernel_rfl
set_option maxHeartbeats 8000000 in
set_option maxRecDepth 100000 in
theorem spec_ProveBetween.calls (k : Nat) (A0 : Option Addr) (c0 : Nat) (l0 : List (S39)) (a1 : ByteArray) (a2 : ByteArray) (r1 : Int) (r2 : Int) (r3 : List (S79)) (w : World) (hr0 : Kd.C k39 w A0 l0.length l0) (hc0 : l0.length ≤ c0) (h : spec_ProveBetween.f k l0 a1 a2 = some (r1, r2, r3)) :
  Calls Try.prog 19 #[.slice A0 l0.length c0, .string a1, .string a2] w fun e w' => ∃ v2_ : Value, e = .returned (.agg #[.int .i64 r1, .int .i64 r2, v2_]) ∧ Kd.S k79 79 w' w.heap.size (fun _ => True) v2_ r3 ∧ Below w.heap.size w w' := by
  have hu44 := Try.underlying44
  have hu39 := Try.underlying39
  have hu79 := Try.underlying79
  have HR0 := Aside0.mk hr0
  have HC0 := Aside0.mk hc0
  clear hr0 hc0
  have HB := Aside0.mk (Below.refl w.heap.size w)
  have H : ((spec_PairsOk.f k l0).bind fun t317 => (if t317 = true then (spec_ProveBetween.l0 k l0 a1 a2 0 (l0.length : Int) 0) else (some (0, 0, ([] : List (S79)))))) = some (r1, r2, r3) := h
  clear h
  replace H := Option.bind_eq_some_iff.mp H
  obtain ⟨t317, A40, H⟩ := H
  have A4 := Aside0.mk A40
  clear A40
  by_cases c5 : t317 = true
  · subst c5
    have H1 : (spec_ProveBetween.l0 k l0 a1 a2 0 (l0.length : Int) 0) = some (r1, r2, r3) := by rw [if_pos rfl] at H; exact H
    clear H
    have H := H1
    clear H1
    have HC6 := Aside0.mk H
    clear H
    go_enter Try.func19, Try.ntmps19
    go_upto_block 0 with (first | ((with_reducible refine gate_dst (N := 6) rfl ?_); refine box_event ?hg (N := 6) ?hd (cs := #[.int .i64 0, .int .i64 0, .slice none 0 0]) (t := 44) ?hr ?_; (case hd => rfl); (case hg => rfl); (case hr => first | (go_simp; done) | (go_simp; rfl)); intro gb316 hg w7 hbox hb; have n0_ := Aside0.mk (below_step (be_ HB.out) hb); have n1_ := Aside0.mk (hbox); have n2_ := Aside0.mk ((by rw [hg]; exact (below_size (be_ HB.out)) : w.heap.size ≤ gb316)); have n3_ := Aside0.mk ((by rw [hg]; exact (below_size (be_ HB.out)) : w.heap.size ≤ gb316)); clear HB; have HB := n0_; have BK316 := n1_; have GW316 := n2_; have GE316 := n3_; clear n0_ n1_ n2_ n3_; clear hb hbox hg) | ((with_reducible refine gate_callee (f := 45) rfl ?_); refine goesL_ (some 12) rfl rfl Try.func45 (by kernel_rfl) rfl #[.slice A0 l0.length c0] rfl al_ ?_; (with_reducible refine (spec_PairsOk.calls k _ _ l0 true _ ?side1 ?side2 A4.out).mono ?_); (case side1 => exact kc_ (Kd.C_below HR0.out HB.out)); (case side2 => exact HC0.out); rintro e w8 ⟨rfl, hb⟩; refine ⟨_, rfl, ?_⟩; have n0_ := Aside0.mk (blk_below (g := gb316) (o := .cells #[.int .i64 0, .int .i64 0, .slice none 0 0] 44 (0, 0)) (bk_ BK316.out) hb); have n1_ := Aside0.mk (below_step (bs_ HB.out GE316.out) hb); clear BK316; clear HB; have BK316 := n0_; have HB := n1_; clear n0_ n1_; (try clear hb); (try clear hb2); (try clear hk); (try clear hi)) | ((with_reducible refine gate_dst (N := 7) rfl ?_); refine box_event ?hg (N := 7) ?hd (cs := #[.int .i64 0, .int .i64 0, .slice none 0 0]) (t := 44) ?hr ?_; (case hd => rfl); (case hg => rfl); (case hr => first | (go_simp; done) | (go_simp; rfl)); intro gb318 hg w9 hbox hb; have n0_ := Aside0.mk (blk_below (g := gb316) (o := .cells #[.int .i64 0, .int .i64 0, .slice none 0 0] 44 (0, 0)) (bk_ BK316.out) hb); have n1_ := Aside0.mk (below_step (bs_ HB.out GE316.out) hb); have n2_ := Aside0.mk (hbox); have n3_ := Aside0.mk ((by rw [hg]; exact (below_size (bs_ HB.out GE316.out)) : w.heap.size ≤ gb318)); have n4_ := Aside0.mk ((by rw [hg]; exact (below_size (bs_ HB.out GE316.out)) : w.heap.size ≤ gb318)); have n5_ := Aside0.mk ((by rw [hg]; exact Nat.ne_of_lt (blk_lt (g := gb316) (o := .cells #[.int .i64 0, .int .i64 0, .slice none 0 0] 44 (0, 0)) (bk_ BK316.out)) : gb316 ≠ gb318)); have n6_ := Aside0.mk ((by rw [hg]; exact Nat.ne_of_gt (blk_lt (g := gb316) (o := .cells #[.int .i64 0, .int .i64 0, .slice none 0 0] 44 (0, 0)) (bk_ BK316.out)) : gb318 ≠ gb316)); clear BK316; clear HB; have BK316 := n0_; have HB := n1_; have BK318 := n2_; have GW318 := n3_; have GE318 := n4_; have NB316_318 := n5_; have NB318_316 := n6_; clear n0_ n1_ n2_ n3_ n4_ n5_ n6_; clear hb hbox hg; have hnb10 := NB318_316.out; have hnc10 := NB316_318.out; have hcz11_0 : w9.cell? ⟨gb318, 0, none⟩ = some (.int .i64 0) := (blk_cell BK318.out 0).trans rfl; have hcz11_1 : w9.cell? ⟨gb318, 1, none⟩ = some (.int .i64 0) := (blk_cell BK318.out 1).trans rfl; have hcz11_2 : w9.cell? ⟨gb318, 2, none⟩ = some (.slice none 0 0) := (blk_cell BK318.out 2).trans rfl; have hfz11_0 := blk_frozen BK318.out 0; have hfz11_1 := blk_frozen BK318.out 1; have hfz11_2 := blk_frozen BK318.out 2))
    (try simp only [Act.put, sa_, sz_, ss_])
    go_cut [8] (fun v8 wc => ∃ (kq : Nat) (x8_5 : Int), v8 = .int .i64 x8_5 ∧ Aside0 (spec_ProveBetween.j1 kq l0 a1 a2 x8_5 (l0.length : Int) 0 = some (r1, r2, r3)) ∧ Aside0 (kq ≤ k) ∧ Aside0 (wc.heap[gb316]? = some (.cells #[.int .i64 0, .int .i64 0, (.slice none 0 0)] 44 (0, 0))) ∧ Aside0 (wc.heap[gb318]? = some (.cells #[.int .i64 (l0.length : Int), .int .i64 0, (.slice none 0 0)] 44 (0, 0))) ∧ Aside0 (Below w.heap.size w wc))
    case first =>
     have H := HC6.out
     clear HC6
     have H' := Aside0.mk H
     clear H
     go_wp2
     go_loopg [8] k (fun kq v8 w' => ∃ (x8_1 : Int), v8 = .int .i64 x8_1 ∧ Aside0 (spec_ProveBetween.l0 kq l0 a1 a2 x8_1 (l0.length : Int) 0 = some (r1, r2, r3)) ∧ Aside0 (kq ≤ k) ∧ Aside0 (w'.heap[gb316]? = some (.cells #[.int .i64 0, .int .i64 0, (.slice none 0 0)] 44 (0, 0))) ∧ Aside0 (w'.heap[gb318]? = some (.cells #[.int .i64 (l0.length : Int), .int .i64 0, (.slice none 0 0)] 44 (0, 0))) ∧ Aside0 (Below w.heap.size w w'))
     case atStart => exact ⟨(0), (by first | rfl | (simp; done) | (simp [*]; done)), H', ⟨Nat.le_refl _⟩, ⟨by (with_reducible repeat (first | refine blk_drewN ?_ _ | refine blk_drew ?_ | refine blk_alloc ?_ _)); refine blk_far ?_ NB316_318.out _; (with_reducible repeat (first | refine blk_drewN ?_ _ | refine blk_drew ?_ | refine blk_alloc ?_ _)); refine blk_far ?_ NB316_318.out _; (with_reducible repeat (first | refine blk_drewN ?_ _ | refine blk_drew ?_ | refine blk_alloc ?_ _)); refine blk_far ?_ NB316_318.out _; (with_reducible repeat (first | refine blk_drewN ?_ _ | refine blk_drew ?_ | refine blk_alloc ?_ _)); exact BK316.out⟩, ⟨by (with_reducible repeat (first | refine blk_drewN ?_ _ | refine blk_drew ?_ | refine blk_alloc ?_ _)); refine blk_put (cs := #[.int .i64 (l0.length : Int), .int .i64 0, .slice none 0 0]) ?_ 2 _ rfl; (with_reducible repeat (first | refine blk_drewN ?_ _ | refine blk_drew ?_ | refine blk_alloc ?_ _)); refine blk_put (cs := #[.int .i64 (l0.length : Int), .int .i64 0, .slice none 0 0]) ?_ 1 _ rfl; (with_reducible repeat (first | refine blk_drewN ?_ _ | refine blk_drew ?_ | refine blk_alloc ?_ _)); refine blk_put (cs := #[.int .i64 0, .int .i64 0, .slice none 0 0]) ?_ 0 _ rfl; (with_reducible repeat (first | refine blk_drewN ?_ _ | refine blk_drew ?_ | refine blk_alloc ?_ _)); exact BK318.out⟩, ⟨by repeat (first | (with_reducible first | exact HB.out | apply below_alloc | apply pw_below_drewN | apply below_drew1 | refine below_set ?_ GE316.out | refine below_set ?_ GE318.out) | exact HB.out)⟩⟩
     case round =>
      clear H'
      try clear c1
      try clear p2
      try clear c4
      try clear c5
      try clear c10
      try clear hcz11_0
      try clear hcz11_1
      try clear hcz11_2
      try clear hfz11_0
      try clear hfz11_1
      try clear hfz11_2
      obtain ⟨x8_1, rfl, HA, HK1, BK316, BK318, HB⟩ := hrel
      cases gk with
      | zero => exact absurd HA.out (by simp [spec_ProveBetween.l0])
      | succ k1 =>
       have H := HA.out
       clear HA
       simp only [spec_ProveBetween.l0] at H
       by_cases c12 : x8_1 < (l0.length : Int)
       · rw [if_pos c12] at H
         have c12b0 : decide (x8_1 < (l0.length : Int)) = true := decide_eq_true c12
         clear c12
         (first | rw [c12b0] | (simp only [i64_w, i32_w]; rw [c12b0]) | skip)
         by_cases c13 : 0 ≤ x8_1
         rotate_left
         · rw [if_neg c13] at H; exact absurd H (by simp)
         rw [if_pos c13] at H
         have c13b0 : decide (0 ≤ x8_1) = true := decide_eq_true c13
         clear c13
         by_cases c14 : (Op.bytesLess (((rd_T39 l0 x8_1).f0).toList) a1.toList) = true
         · rw [if_pos c14] at H
           have c14b0 : (Op.bytesLess (((rd_T39 l0 x8_1).f0).toList) a1.toList) = true := c14
           clear c14
           have H' := Aside0.mk H
           clear H
           have p319 : 0 ≤ (x8_1 : Int) := of_decide_eq_true (by first | (with_reducible assumption) | assumption)
           have q319 : x8_1 < (l0.length : Int) := of_decide_eq_true (by first | (with_reducible assumption) | assumption)
           obtain ⟨ad319, e319, hx319_0, hx319_1⟩ := at_T39 HR0.out x8_1 p319 q319
           cases e319
           replace hx319_0 := (HB.out.cell (World.block_lt_of_cell? w _ hx319_0)).trans hx319_0
           replace hx319_1 := (HB.out.cell (World.block_lt_of_cell? w _ hx319_1)).trans hx319_1
           replace p319 := eq_true p319
           replace q319 := eq_true q319
           go_wp2
           go_roundg k1
           case measure => have := HK1.out; omega
           case rel => exact ⟨(wrap64 (x8_1 + 1)), (by first | rfl | (simp; done) | (simp [*]; done)), H', ⟨by have := HK1.out; omega⟩, ⟨by (with_reducible repeat (first | refine blk_drewN ?_ _ | refine blk_drew ?_ | refine blk_alloc ?_ _)); exact BK316.out⟩, ⟨by (with_reducible repeat (first | refine blk_drewN ?_ _ | refine blk_drew ?_ | refine blk_alloc ?_ _)); exact BK318.out⟩, ⟨by repeat (first | (with_reducible first | exact HB.out | apply below_alloc | apply pw_below_drewN | apply below_drew1 | refine below_set ?_ GE316.out | refine below_set ?_ GE318.out) | exact HB.out)⟩⟩
         · rw [if_neg c14] at H
           have c14b0 : (Op.bytesLess (((rd_T39 l0 x8_1).f0).toList) a1.toList) = false := by simpa using c14
           clear c14
           have H' := Aside0.mk H
           clear H
           have p319 : 0 ≤ (x8_1 : Int) := of_decide_eq_true (by first | (with_reducible assumption) | assumption)
           have q319 : x8_1 < (l0.length : Int) := of_decide_eq_true (by first | (with_reducible assumption) | assumption)
           obtain ⟨ad319, e319, hx319_0, hx319_1⟩ := at_T39 HR0.out x8_1 p319 q319
           cases e319
           replace hx319_0 := (HB.out.cell (World.block_lt_of_cell? w _ hx319_0)).trans hx319_0
           replace hx319_1 := (HB.out.cell (World.block_lt_of_cell? w _ hx319_1)).trans hx319_1
           replace p319 := eq_true p319
           replace q319 := eq_true q319
           go_wp2
           go_meet
           case rel => exact ⟨_, (x8_1), (by first | rfl | (simp; done) | (simp [*]; done)), H', ⟨by have := HK1.out; first | omega | exact Nat.le_refl _⟩, ⟨by (with_reducible repeat (first | refine blk_drewN ?_ _ | refine blk_drew ?_ | refine blk_alloc ?_ _)); exact BK316.out⟩, ⟨by (with_reducible repeat (first | refine blk_drewN ?_ _ | refine blk_drew ?_ | refine blk_alloc ?_ _)); exact BK318.out⟩, ⟨by repeat (first | (with_reducible first | exact HB.out | apply below_alloc | apply pw_below_drewN | apply below_drew1 | refine below_set ?_ GE316.out | refine below_set ?_ GE318.out) | exact HB.out)⟩⟩
       · rw [if_neg c12] at H
         have c12b0 : decide (x8_1 < (l0.length : Int)) = false := decide_eq_false c12
         clear c12
         (first | rw [c12b0] | (simp only [i64_w, i32_w]; rw [c12b0]) | skip)
         have H' := Aside0.mk H
         clear H
         go_wp2
         go_meet
         case rel => exact ⟨_, (x8_1), (by first | rfl | (simp; done) | (simp [*]; done)), H', ⟨by have := HK1.out; first | omega | exact Nat.le_refl _⟩, ⟨by (with_reducible repeat (first | refine blk_drewN ?_ _ | refine blk_drew ?_ | refine blk_alloc ?_ _)); exact BK316.out⟩, ⟨by (with_reducible repeat (first | refine blk_drewN ?_ _ | refine blk_drew ?_ | refine blk_alloc ?_ _)); exact BK318.out⟩, ⟨by repeat (first | (with_reducible first | exact HB.out | apply below_alloc | apply pw_below_drewN | apply below_drew1 | refine below_set ?_ GE316.out | refine below_set ?_ GE318.out) | exact HB.out)⟩⟩
    case rest =>
     clear HC6
     try clear c1
     try clear p2
     try clear p3
     try clear q3
     try clear hx3
     try clear c4
     try clear c5
     try clear p6
     try clear c10
     try clear c12
     try clear c12b0
     try clear c13
     try clear c13b0
     try clear c14
     try clear c14b0
     try clear hcz11_0
     try clear hcz11_1
     try clear hcz11_2
     try clear hfz11_0
     try clear hfz11_1
     try clear hfz11_2
     try clear hx319_0
     try clear hx319_1
     try clear p2
     try clear p319
     try clear q319
     obtain ⟨kq, x8_5, rfl, HA, HJ5, BK316, BK318, HB⟩ := hcut
     cases kq with
     | zero => exact absurd HA.out (by simp [spec_ProveBetween.j1])
     | succ kj5 =>
      have H := HA.out
      clear HA
      simp only [spec_ProveBetween.j1] at H
      have HC15 := Aside0.mk H
      clear H
      go_upto_block 2 with (fail)
      go_cut [9] (fun v9 wc => ∃ (kq : Nat) (x9_14 : Int), v9 = .int .i64 x9_14 ∧ Aside0 (spec_ProveBetween.j3 kq l0 x8_5 x9_14 (l0.length : Int) 0 = some (r1, r2, r3)) ∧ Aside0 (kq ≤ kj5) ∧ Aside0 (wc.heap[gb316]? = some (.cells #[.int .i64 0, .int .i64 0, (.slice none 0 0)] 44 (0, 0))) ∧ Aside0 (wc.heap[gb318]? = some (.cells #[.int .i64 (l0.length : Int), .int .i64 0, (.slice none 0 0)] 44 (0, 0))) ∧ Aside0 (Below w.heap.size w wc))
      case first =>
       have H := HC15.out
       clear HC15
       have H' := Aside0.mk H
       clear H
       go_wp2
       go_loopg [9] kj5 (fun kq v9 w' => ∃ (x9_2 : Int), v9 = .int .i64 x9_2 ∧ Aside0 (spec_ProveBetween.l1 kq l0 a1 a2 x8_5 x9_2 (l0.length : Int) 0 = some (r1, r2, r3)) ∧ Aside0 (kq ≤ kj5) ∧ Aside0 (w'.heap[gb316]? = some (.cells #[.int .i64 0, .int .i64 0, (.slice none 0 0)] 44 (0, 0))) ∧ Aside0 (w'.heap[gb318]? = some (.cells #[.int .i64 (l0.length : Int), .int .i64 0, (.slice none 0 0)] 44 (0, 0))) ∧ Aside0 (Below w.heap.size w w'))
       case atStart => exact ⟨(x8_5), (by first | rfl | (simp; done) | (simp [*]; done)), H', ⟨Nat.le_refl _⟩, ⟨by (with_reducible repeat (first | refine blk_drewN ?_ _ | refine blk_drew ?_ | refine blk_alloc ?_ _)); exact BK316.out⟩, ⟨by (with_reducible repeat (first | refine blk_drewN ?_ _ | refine blk_drew ?_ | refine blk_alloc ?_ _)); exact BK318.out⟩, ⟨by repeat (first | (with_reducible first | exact HB.out | apply below_alloc | apply pw_below_drewN | apply below_drew1 | refine below_set ?_ GE316.out | refine below_set ?_ GE318.out) | exact HB.out)⟩⟩
       case round =>
        clear H'
        try clear c1
        try clear p2
        try clear p3
        try clear q3
        try clear hx3
        try clear c4
        try clear c5
        try clear p6
        try clear c10
        try clear c12
        try clear c12b0
        try clear c13
        try clear c13b0
        try clear c14
        try clear c14b0
        try clear hcz11_0
        try clear hcz11_1
        try clear hcz11_2
        try clear hfz11_0
        try clear hfz11_1
        try clear hfz11_2
        try clear hx319_0
        try clear hx319_1
        try clear p2
        try clear p3
        try clear p319
        try clear p6
        try clear q3
        try clear q319
        obtain ⟨x9_2, rfl, HA, HK2, BK316, BK318, HB⟩ := hrel
        cases gk with
        | zero => exact absurd HA.out (by simp [spec_ProveBetween.l1])
        | succ k2 =>
         have H := HA.out
         clear HA
         simp only [spec_ProveBetween.l1] at H
         by_cases c16 : x9_2 < (l0.length : Int)
         · rw [if_pos c16] at H
           have c16b0 : decide (x9_2 < (l0.length : Int)) = true := decide_eq_true c16
           clear c16
           (first | rw [c16b0] | (simp only [i64_w, i32_w]; rw [c16b0]) | skip)
           by_cases c17 : 0 ≤ x9_2
           rotate_left
           · rw [if_neg c17] at H; exact absurd H (by simp)
           rw [if_pos c17] at H
           have c17b0 : decide (0 ≤ x9_2) = true := decide_eq_true c17
           clear c17
           replace H := Option.bind_eq_some_iff.mp H
           obtain ⟨t321, A180, H⟩ := H
           have A18 := Aside0.mk A180
           clear A180
           by_cases c19 : t321 = true
           · subst c19
             have H1 : (spec_ProveBetween.l1 k2 l0 a1 a2 x8_5 (wrap64 (x9_2 + 1)) (l0.length : Int) 0) = some (r1, r2, r3) := by rw [if_pos rfl] at H; exact H
             clear H
             have H := H1
             clear H1
             have H' := Aside0.mk H
             clear H
             have p320 : 0 ≤ (x9_2 : Int) := of_decide_eq_true (by first | (with_reducible assumption) | assumption)
             have q320 : x9_2 < (l0.length : Int) := of_decide_eq_true (by first | (with_reducible assumption) | assumption)
             obtain ⟨ad320, e320, hx320_0, hx320_1⟩ := at_T39 HR0.out x9_2 p320 q320
             cases e320
             replace hx320_0 := (HB.out.cell (World.block_lt_of_cell? w _ hx320_0)).trans hx320_0
             replace hx320_1 := (HB.out.cell (World.block_lt_of_cell? w _ hx320_1)).trans hx320_1
             replace p320 := eq_true p320
             replace q320 := eq_true q320
             go_wp2_with (first | (go_at_call 46; (with_reducible refine (spec_l3In.calls ((rd_T39 l0 x9_2).f0) a1 a2 true _ A18.out).mono ?_); rintro e w' ⟨rfl, ⟨nd, rfl⟩⟩))
             go_roundg k2
             case measure => have := HJ5.out; have := HK2.out; omega
             case rel => exact ⟨(wrap64 (x9_2 + 1)), (by first | rfl | (simp; done) | (simp [*]; done)), H', ⟨by have := HJ5.out; have := HK2.out; omega⟩, ⟨by (with_reducible repeat (first | refine blk_drewN ?_ _ | refine blk_drew ?_ | refine blk_alloc ?_ _)); exact BK316.out⟩, ⟨by (with_reducible repeat (first | refine blk_drewN ?_ _ | refine blk_drew ?_ | refine blk_alloc ?_ _)); exact BK318.out⟩, ⟨by repeat (first | (with_reducible first | exact HB.out | apply below_alloc | apply pw_below_drewN | apply below_drew1 | refine below_set ?_ GE316.out | refine below_set ?_ GE318.out) | exact HB.out)⟩⟩
           · replace c19 := Bool.eq_false_iff.mpr c19
             subst c19
             have H1 : (spec_ProveBetween.j3 k2 l0 x8_5 x9_2 (l0.length : Int) 0) = some (r1, r2, r3) := by rw [if_neg (show ¬ (false = true) by decide)] at H; exact H
             clear H
             have H := H1
             clear H1
             have H' := Aside0.mk H
             clear H
             have p320 : 0 ≤ (x9_2 : Int) := of_decide_eq_true (by first | (with_reducible assumption) | assumption)
             have q320 : x9_2 < (l0.length : Int) := of_decide_eq_true (by first | (with_reducible assumption) | assumption)
             obtain ⟨ad320, e320, hx320_0, hx320_1⟩ := at_T39 HR0.out x9_2 p320 q320
             cases e320
             replace hx320_0 := (HB.out.cell (World.block_lt_of_cell? w _ hx320_0)).trans hx320_0
             replace hx320_1 := (HB.out.cell (World.block_lt_of_cell? w _ hx320_1)).trans hx320_1
             replace p320 := eq_true p320
             replace q320 := eq_true q320
             go_wp2_with (first | (go_at_call 46; (with_reducible refine (spec_l3In.calls ((rd_T39 l0 x9_2).f0) a1 a2 false _ A18.out).mono ?_); rintro e w' ⟨rfl, ⟨nd, rfl⟩⟩))
             go_meet
             case rel => exact ⟨_, (x9_2), (by first | rfl | (simp; done) | (simp [*]; done)), H', ⟨by have := HJ5.out; have := HK2.out; first | omega | exact Nat.le_refl _⟩, ⟨by (with_reducible repeat (first | refine blk_drewN ?_ _ | refine blk_drew ?_ | refine blk_alloc ?_ _)); exact BK316.out⟩, ⟨by (with_reducible repeat (first | refine blk_drewN ?_ _ | refine blk_drew ?_ | refine blk_alloc ?_ _)); exact BK318.out⟩, ⟨by repeat (first | (with_reducible first | exact HB.out | apply below_alloc | apply pw_below_drewN | apply below_drew1 | refine below_set ?_ GE316.out | refine below_set ?_ GE318.out) | exact HB.out)⟩⟩
         · rw [if_neg c16] at H
           have c16b0 : decide (x9_2 < (l0.length : Int)) = false := decide_eq_false c16
           clear c16
           (first | rw [c16b0] | (simp only [i64_w, i32_w]; rw [c16b0]) | skip)
           have H' := Aside0.mk H
           clear H
           go_wp2
           go_meet
           case rel => exact ⟨_, (x9_2), (by first | rfl | (simp; done) | (simp [*]; done)), H', ⟨by have := HJ5.out; have := HK2.out; first | omega | exact Nat.le_refl _⟩, ⟨by (with_reducible repeat (first | refine blk_drewN ?_ _ | refine blk_drew ?_ | refine blk_alloc ?_ _)); exact BK316.out⟩, ⟨by (with_reducible repeat (first | refine blk_drewN ?_ _ | refine blk_drew ?_ | refine blk_alloc ?_ _)); exact BK318.out⟩, ⟨by repeat (first | (with_reducible first | exact HB.out | apply below_alloc | apply pw_below_drewN | apply below_drew1 | refine below_set ?_ GE316.out | refine below_set ?_ GE318.out) | exact HB.out)⟩⟩
      case rest =>
       clear HC15
       try clear c1
       try clear p2
       try clear p3
       try clear q3
       try clear hx3
       try clear c4
       try clear c5
       try clear p6
       try clear c10
       try clear c12
       try clear c12b0
       try clear c13
       try clear c13b0
       try clear c14
       try clear c14b0
       try clear c16
       try clear c16b0
       try clear c17
       try clear c17b0
       try clear c19
       try clear hcz11_0
       try clear hcz11_1
       try clear hcz11_2
       try clear hfz11_0
       try clear hfz11_1
       try clear hfz11_2
       try clear hx319_0
       try clear hx319_1
       try clear hx320_0
       try clear hx320_1
       try clear p2
       try clear p3
       try clear p319
       try clear p320
       try clear p6
       try clear q3
       try clear q319
       try clear q320
       obtain ⟨kq, x9_14, rfl, HA, HJ14, BK316, BK318, HB⟩ := hcut
       cases kq with
       | zero => exact absurd HA.out (by simp [spec_ProveBetween.j3])
       | succ kj14 =>
        have H := HA.out
        clear HA
        simp only [spec_ProveBetween.j3] at H
        have HC20 := Aside0.mk H
        clear H
        go_upto_if 51 with (fail)
        go_cut [8] (fun v8 wc => ∃ (kq : Nat) (x8_19 : Int), v8 = .int .i64 x8_19 ∧ Aside0 (spec_ProveBetween.j4 kq l0 x8_19 x9_14 (l0.length : Int) 0 = some (r1, r2, r3)) ∧ Aside0 (kq ≤ kj14) ∧ Aside0 (wc.heap[gb316]? = some (.cells #[.int .i64 0, .int .i64 0, (.slice none 0 0)] 44 (0, 0))) ∧ Aside0 (wc.heap[gb318]? = some (.cells #[.int .i64 (l0.length : Int), .int .i64 0, (.slice none 0 0)] 44 (0, 0))) ∧ Aside0 (Below w.heap.size w wc))
        case first =>
         have H := HC20.out
         clear HC20
         by_cases c21 : x8_5 > 0
         · rw [if_pos c21] at H
           have c21b0 : decide (0 < x8_5) = true := decide_eq_true c21
           clear c21
           (first | rw [c21b0] | (simp only [i64_w, i32_w]; rw [c21b0]) | skip)
           have H' := Aside0.mk H
           clear H
           go_wp2
           go_meet
           case rel => exact ⟨_, (wrap64 (x8_5 - 1)), (by first | rfl | (simp; done) | (simp [*]; done)), H', ⟨by have := HJ5.out; have := HJ14.out; first | omega | exact Nat.le_refl _⟩, ⟨by (with_reducible repeat (first | refine blk_drewN ?_ _ | refine blk_drew ?_ | refine blk_alloc ?_ _)); exact BK316.out⟩, ⟨by (with_reducible repeat (first | refine blk_drewN ?_ _ | refine blk_drew ?_ | refine blk_alloc ?_ _)); exact BK318.out⟩, ⟨by repeat (first | (with_reducible first | exact HB.out | apply below_alloc | apply pw_below_drewN | apply below_drew1 | refine below_set ?_ GE316.out | refine below_set ?_ GE318.out) | exact HB.out)⟩⟩
         · rw [if_neg c21] at H
           have c21b0 : decide (0 < x8_5) = false := decide_eq_false c21
           clear c21
           (first | rw [c21b0] | (simp only [i64_w, i32_w]; rw [c21b0]) | skip)
           have H' := Aside0.mk H
           clear H
           go_wp2
           go_meet
           case rel => exact ⟨_, (x8_5), (by first | rfl | (simp; done) | (simp [*]; done)), H', ⟨by have := HJ5.out; have := HJ14.out; first | omega | exact Nat.le_refl _⟩, ⟨by (with_reducible repeat (first | refine blk_drewN ?_ _ | refine blk_drew ?_ | refine blk_alloc ?_ _)); exact BK316.out⟩, ⟨by (with_reducible repeat (first | refine blk_drewN ?_ _ | refine blk_drew ?_ | refine blk_alloc ?_ _)); exact BK318.out⟩, ⟨by repeat (first | (with_reducible first | exact HB.out | apply below_alloc | apply pw_below_drewN | apply below_drew1 | refine below_set ?_ GE316.out | refine below_set ?_ GE318.out) | exact HB.out)⟩⟩
        case rest =>
         clear HC20
         try clear c1
         try clear c2
         try clear p2
         try clear p3
         try clear q3
         try clear hx3
         try clear c4
         try clear c5
         try clear p6
         try clear c10
         try clear c12
         try clear c12b0
         try clear c13
         try clear c13b0
         try clear c14
         try clear c14b0
         try clear c16
         try clear c16b0
         try clear c17
         try clear c17b0
         try clear c19
         try clear c21
         try clear c21b0
         try clear hcz11_0
         try clear hcz11_1
         try clear hcz11_2
         try clear hfz11_0
         try clear hfz11_1
         try clear hfz11_2
         try clear hx319_0
         try clear hx319_1
         try clear hx320_0
         try clear hx320_1
         try clear p2
         try clear p3
         try clear p319
         try clear p320
         try clear p6
         try clear q3
         try clear q319
         try clear q320
         obtain ⟨kq, x8_19, rfl, HA, HJ19, BK316, BK318, HB⟩ := hcut
         cases kq with
         | zero => exact absurd HA.out (by simp [spec_ProveBetween.j4])
         | succ kj19 =>
          have H := HA.out
          clear HA
          simp only [spec_ProveBetween.j4] at H
          have HC22 := Aside0.mk H
          clear H
          go_upto_if 57 with (fail)
          go_cut [9] (fun v9 wc => ∃ (kq : Nat) (x9_21 : Int), v9 = .int .i64 x9_21 ∧ Aside0 (spec_ProveBetween.j5 kq l0 x8_19 x9_21 (l0.length : Int) 0 = some (r1, r2, r3)) ∧ Aside0 (kq ≤ kj19) ∧ Aside0 (wc.heap[gb316]? = some (.cells #[.int .i64 0, .int .i64 0, (.slice none 0 0)] 44 (0, 0))) ∧ Aside0 (wc.heap[gb318]? = some (.cells #[.int .i64 (l0.length : Int), .int .i64 0, (.slice none 0 0)] 44 (0, 0))) ∧ Aside0 (Below w.heap.size w wc))
          case first =>
           have H := HC22.out
           clear HC22
           by_cases c23 : x9_14 < (l0.length : Int)
           · rw [if_pos c23] at H
             have c23b0 : decide (x9_14 < (l0.length : Int)) = true := decide_eq_true c23
             clear c23
             (first | rw [c23b0] | (simp only [i64_w, i32_w]; rw [c23b0]) | skip)
             have H' := Aside0.mk H
             clear H
             go_wp2
             go_meet
             case rel => exact ⟨_, (wrap64 (x9_14 + 1)), (by first | rfl | (simp; done) | (simp [*]; done)), H', ⟨by have := HJ5.out; have := HJ14.out; have := HJ19.out; first | omega | exact Nat.le_refl _⟩, ⟨by (with_reducible repeat (first | refine blk_drewN ?_ _ | refine blk_drew ?_ | refine blk_alloc ?_ _)); exact BK316.out⟩, ⟨by (with_reducible repeat (first | refine blk_drewN ?_ _ | refine blk_drew ?_ | refine blk_alloc ?_ _)); exact BK318.out⟩, ⟨by repeat (first | (with_reducible first | exact HB.out | apply below_alloc | apply pw_below_drewN | apply below_drew1 | refine below_set ?_ GE316.out | refine below_set ?_ GE318.out) | exact HB.out)⟩⟩
           · rw [if_neg c23] at H
             have c23b0 : decide (x9_14 < (l0.length : Int)) = false := decide_eq_false c23
             clear c23
             (first | rw [c23b0] | (simp only [i64_w, i32_w]; rw [c23b0]) | skip)
             have H' := Aside0.mk H
             clear H
             go_wp2
             go_meet
             case rel => exact ⟨_, (x9_14), (by first | rfl | (simp; done) | (simp [*]; done)), H', ⟨by have := HJ5.out; have := HJ14.out; have := HJ19.out; first | omega | exact Nat.le_refl _⟩, ⟨by (with_reducible repeat (first | refine blk_drewN ?_ _ | refine blk_drew ?_ | refine blk_alloc ?_ _)); exact BK316.out⟩, ⟨by (with_reducible repeat (first | refine blk_drewN ?_ _ | refine blk_drew ?_ | refine blk_alloc ?_ _)); exact BK318.out⟩, ⟨by repeat (first | (with_reducible first | exact HB.out | apply below_alloc | apply pw_below_drewN | apply below_drew1 | refine below_set ?_ GE316.out | refine below_set ?_ GE318.out) | exact HB.out)⟩⟩
          case rest =>
           clear HC22
           try clear c1
           try clear c2
           try clear p2
           try clear p3
           try clear q3
           try clear hx3
           try clear c4
           try clear c5
           try clear p6
           try clear c10
           try clear c12
           try clear c12b0
           try clear c13
           try clear c13b0
           try clear c14
           try clear c14b0
           try clear c16
           try clear c16b0
           try clear c17
           try clear c17b0
           try clear c19
           try clear c21
           try clear c21b0
           try clear c23
           try clear c23b0
           try clear hcz11_0
           try clear hcz11_1
           try clear hcz11_2
           try clear hfz11_0
           try clear hfz11_1
           try clear hfz11_2
           try clear hx319_0
           try clear hx319_1
           try clear hx320_0
           try clear hx320_1
           try clear p2
           try clear p3
           try clear p319
           try clear p320
           try clear p6
           try clear q3
           try clear q319
           try clear q320
           obtain ⟨kq, x9_21, rfl, HA, HJ21, BK316, BK318, HB⟩ := hcut
           cases kq with
           | zero => exact absurd HA.out (by simp [spec_ProveBetween.j5])
           | succ kj21 =>
            have H := HA.out
            clear HA
            simp only [spec_ProveBetween.j5] at H
            have HC24 := Aside0.mk H
            clear H
            go_upto_if 62 with (fail)
            go_cut [] (fun wc => ∃ (kq : Nat) (x319001_23 : Int), Aside0 (spec_ProveBetween.j6 kq l0 x8_19 x9_21 (l0.length : Int) x319001_23 = some (r1, r2, r3)) ∧ Aside0 (kq ≤ kj21) ∧ Aside0 (wc.heap[gb316]? = some (.cells #[.int .i64 0, .int .i64 0, (.slice none 0 0)] 44 (0, 0))) ∧ Aside0 (wc.heap[gb318]? = some (.cells #[.int .i64 (l0.length : Int), .int .i64 x319001_23, (.slice none 0 0)] 44 (0, 0))) ∧ Aside0 (Below w.heap.size w wc))
            case first =>
             have H := HC24.out
             clear HC24
             by_cases c25 : x8_19 < x9_21
             · rw [if_pos c25] at H
               have c25b0 : decide (x8_19 < x9_21) = true := decide_eq_true c25
               clear c25
               (first | rw [c25b0] | (simp only [i64_w, i32_w]; rw [c25b0]) | skip)
               have H' := Aside0.mk H
               clear H
               have hnb26 := NB318_316.out
               have hnc26 := NB316_318.out
               have hcz27_0 : wc.cell? ⟨gb318, 0, none⟩ = some (.int .i64 (l0.length : Int)) := (blk_cell BK318.out 0).trans rfl
               have hcz27_1 : wc.cell? ⟨gb318, 1, none⟩ = some (.int .i64 0) := (blk_cell BK318.out 1).trans rfl
               have hcz27_2 : wc.cell? ⟨gb318, 2, none⟩ = some (.slice none 0 0) := (blk_cell BK318.out 2).trans rfl
               have hfz27_0 := blk_frozen BK318.out 0
               have hfz27_1 := blk_frozen BK318.out 1
               have hfz27_2 := blk_frozen BK318.out 2
               go_wp2
               go_meet
               case rel => exact ⟨_, (x8_19), H', ⟨by have := HJ5.out; have := HJ14.out; have := HJ19.out; have := HJ21.out; first | omega | exact Nat.le_refl _⟩, ⟨by (with_reducible repeat (first | refine blk_drewN ?_ _ | refine blk_drew ?_ | refine blk_alloc ?_ _)); refine blk_far ?_ NB316_318.out _; (with_reducible repeat (first | refine blk_drewN ?_ _ | refine blk_drew ?_ | refine blk_alloc ?_ _)); exact BK316.out⟩, ⟨by (with_reducible repeat (first | refine blk_drewN ?_ _ | refine blk_drew ?_ | refine blk_alloc ?_ _)); refine blk_put (cs := #[.int .i64 (l0.length : Int), .int .i64 0, .slice none 0 0]) ?_ 1 _ rfl; (with_reducible repeat (first | refine blk_drewN ?_ _ | refine blk_drew ?_ | refine blk_alloc ?_ _)); exact BK318.out⟩, ⟨by repeat (first | (with_reducible first | exact HB.out | apply below_alloc | apply pw_below_drewN | apply below_drew1 | refine below_set ?_ GE316.out | refine below_set ?_ GE318.out) | exact HB.out)⟩⟩
             · rw [if_neg c25] at H
               have c25b0 : decide (x8_19 < x9_21) = false := decide_eq_false c25
               clear c25
               (first | rw [c25b0] | (simp only [i64_w, i32_w]; rw [c25b0]) | skip)
               have H' := Aside0.mk H
               clear H
               go_wp2
               go_meet
               case rel => exact ⟨_, (0), H', ⟨by have := HJ5.out; have := HJ14.out; have := HJ19.out; have := HJ21.out; first | omega | exact Nat.le_refl _⟩, ⟨by (with_reducible repeat (first | refine blk_drewN ?_ _ | refine blk_drew ?_ | refine blk_alloc ?_ _)); exact BK316.out⟩, ⟨by (with_reducible repeat (first | refine blk_drewN ?_ _ | refine blk_drew ?_ | refine blk_alloc ?_ _)); exact BK318.out⟩, ⟨by repeat (first | (with_reducible first | exact HB.out | apply below_alloc | apply pw_below_drewN | apply below_drew1 | refine below_set ?_ GE316.out | refine below_set ?_ GE318.out) | exact HB.out)⟩⟩
            case rest =>
             clear HC24
             try clear c1
             try clear c2
             try clear p2
             try clear p3
             try clear q3
             try clear hx3
             try clear c4
             try clear c5
             try clear p6
             try clear c10
             try clear c12
             try clear c12b0
             try clear c13
             try clear c13b0
             try clear c14
             try clear c14b0
             try clear c16
             try clear c16b0
             try clear c17
             try clear c17b0
             try clear c19
             try clear c21
             try clear c21b0
             try clear c23
             try clear c23b0
             try clear c25
             try clear c25b0
             try clear c26
             try clear hcz11_0
             try clear hcz11_1
             try clear hcz11_2
             try clear hcz27_0
             try clear hcz27_1
             try clear hcz27_2
             try clear hfz11_0
             try clear hfz11_1
             try clear hfz11_2
             try clear hfz27_0
             try clear hfz27_1
             try clear hfz27_2
             try clear hx319_0
             try clear hx319_1
             try clear hx320_0
             try clear hx320_1
             try clear p2
             try clear p3
             try clear p319
             try clear p320
             try clear p6
             try clear q3
             try clear q319
             try clear q320
             obtain ⟨kq, x319001_23, HA, HJ23, BK316, BK318, HB⟩ := hcut
             cases kq with
             | zero => exact absurd HA.out (by simp [spec_ProveBetween.j6])
             | succ kj23 =>
              have H := HA.out
              clear HA
              simp only [spec_ProveBetween.j6] at H
              have H' := Aside0.mk H
              clear H
              go_wp2
              go_loopg [10] kj23 (fun kq v10 w' => ∃ (x10_6 : Int) (x319002_6 : List (S79)) (u319002 : Value), v10 = .int .i64 x10_6 ∧ Aside0 (spec_ProveBetween.l2 kq l0 x9_21 x10_6 (l0.length : Int) x319001_23 x319002_6 = some (r1, r2, r3)) ∧ Aside0 (kq ≤ kj23) ∧ Aside0 (Kd.S k79 79 w' w.heap.size (fun _ => True) u319002 x319002_6) ∧ Aside0 (w'.heap[gb316]? = some (.cells #[.int .i64 0, .int .i64 0, (.slice none 0 0)] 44 (0, 0))) ∧ Aside0 (w'.heap[gb318]? = some (.cells #[.int .i64 (l0.length : Int), .int .i64 x319001_23, u319002] 44 (0, 0))) ∧ Aside0 (Below w.heap.size w w'))
              case atStart => exact ⟨(x8_19), (([] : List (S79))), (.slice none 0 0), (by first | rfl | (simp; done) | (simp [*]; done)), H', ⟨Nat.le_refl _⟩, ⟨by first | exact Kd.S_nil _ _ _ _ _ | exact Kd.N_nil _ _ _ _ _ | exact Kd.V_nil _ _ _ _ _ | exact Kd.Q_nil _ _ _ _ _ | exact Kd.R_nil _ _ _ _ _⟩, ⟨by (with_reducible repeat (first | refine blk_drewN ?_ _ | refine blk_drew ?_ | refine blk_alloc ?_ _)); exact BK316.out⟩, ⟨by (with_reducible repeat (first | refine blk_drewN ?_ _ | refine blk_drew ?_ | refine blk_alloc ?_ _)); exact BK318.out⟩, ⟨by repeat (first | (with_reducible first | exact HB.out | apply below_alloc | apply pw_below_drewN | apply below_drew1 | refine below_set ?_ GE316.out | refine below_set ?_ GE318.out) | exact HB.out)⟩⟩
              case round =>
               clear H'
               try clear c1
               try clear c2
               try clear p2
               try clear p3
               try clear q3
               try clear hx3
               try clear c4
               try clear c5
               try clear p6
               try clear c10
               try clear c12
               try clear c12b0
               try clear c13
               try clear c13b0
               try clear c14
               try clear c14b0
               try clear c16
               try clear c16b0
               try clear c17
               try clear c17b0
               try clear c19
               try clear c21
               try clear c21b0
               try clear c23
               try clear c23b0
               try clear c25
               try clear c25b0
               try clear c26
               try clear hcz11_0
               try clear hcz11_1
               try clear hcz11_2
               try clear hcz27_0
               try clear hcz27_1
               try clear hcz27_2
               try clear hfz11_0
               try clear hfz11_1
               try clear hfz11_2
               try clear hfz27_0
               try clear hfz27_1
               try clear hfz27_2
               try clear hx319_0
               try clear hx319_1
               try clear hx320_0
               try clear hx320_1
               try clear p2
               try clear p3
               try clear p319
               try clear p320
               try clear p6
               try clear q3
               try clear q319
               try clear q320
               obtain ⟨x10_6, x319002_6, u319002, rfl, HA, HK6, HO_319002, BK316, BK318, HB⟩ := hrel
               cases gk with
               | zero => exact absurd HA.out (by simp [spec_ProveBetween.l2])
               | succ k6 =>
                have H := HA.out
                clear HA
                simp only [spec_ProveBetween.l2] at H
                by_cases c28 : x10_6 < x9_21
                · rw [if_pos c28] at H
                  have c28b0 : decide (x10_6 < x9_21) = true := decide_eq_true c28
                  clear c28
                  by_cases c29 : 0 ≤ x10_6
                  rotate_left
                  · rw [if_neg c29] at H; exact absurd H (by simp)
                  rw [if_pos c29] at H
                  have c29b0 : decide (0 ≤ x10_6) = true := decide_eq_true c29
                  clear c29
                  by_cases c30 : x10_6 < (l0.length : Int)
                  rotate_left
                  · rw [if_neg c30] at H; exact absurd H (by simp)
                  rw [if_pos c30] at H
                  have c30b0 : decide (x10_6 < (l0.length : Int)) = true := decide_eq_true c30
                  clear c30
                  replace H := Option.bind_eq_some_iff.mp H
                  obtain ⟨t323, A310, H⟩ := H
                  have A31 := Aside0.mk A310
                  clear A310
                  by_cases c32 : x319002_6.length < 2513169434916
                  rotate_left
                  · rw [if_neg c32] at H; exact absurd H (by simp)
                  rw [if_pos c32] at H
                  have LMc32 := Aside0.mk c32
                  clear c32
                  obtain ⟨y326, hy326⟩ : ∃ y_ : List (S79), y_ = (x319002_6 ++ [(⟨(⟨(rd_T39 l0 x10_6).f0, (rd_T39 l0 x10_6).f1⟩ : S39), t323⟩ : S79)]) := ⟨_, rfl⟩
                  replace H : (spec_ProveBetween.l2 k6 l0 x9_21 (wrap64 (x10_6 + 1)) (l0.length : Int) x319001_23 y326) = some (r1, r2, r3) := by first | (rw [hy326]; with_reducible exact H) | (have H2_ := (Option.bind_some _ _).symm.trans H; rw [hy326]; with_reducible exact H2_) | (have H2_ := (Option.bind_some _ _).symm.trans H; with_reducible exact H2_) | with_reducible exact H | (rw [hy326]; exact H) | exact H
                  have Ny326 := Aside0.mk hy326
                  clear hy326
                  have H' := Aside0.mk H
                  clear H
                  try go_wp2
                  have n0_ := Aside0.mk (Kd.S_drew HO_319002.out)
                  have n1_ := Aside0.mk (blk_drew BK316.out)
                  have n2_ := Aside0.mk (blk_drew BK318.out)
                  have n3_ := Aside0.mk (below_drew1 HB.out)
                  clear HO_319002
                  clear BK316
                  clear BK318
                  clear HB
                  have HO_319002 := n0_
                  have BK316 := n1_
                  have BK318 := n2_
                  have HB := n3_
                  clear n0_ n1_ n2_ n3_
                  have p322 : 0 ≤ (x10_6 : Int) := of_decide_eq_true (by first | (with_reducible assumption) | assumption)
                  have q322 : x10_6 < (l0.length : Int) := of_decide_eq_true (by first | (with_reducible assumption) | assumption)
                  obtain ⟨ad322, e322, hx322_0, hx322_1⟩ := at_T39 HR0.out x10_6 p322 q322
                  have hw322_1 := hx322_1
                  have hw322_0 := hx322_0
                  cases e322
                  replace hx322_0 := (HB.out.cell (World.block_lt_of_cell? w _ hx322_0)).trans hx322_0
                  replace hx322_1 := (HB.out.cell (World.block_lt_of_cell? w _ hx322_1)).trans hx322_1
                  replace p322 := eq_true p322
                  replace q322 := eq_true q322
                  refine start_ (n := 14) (S := fun w' => w'.cell? ⟨gb318, 0, none⟩ = some (.int .i64 (l0.length : Int)) ∧ w'.cell? ⟨gb318, 1, none⟩ = some (.int .i64 x319001_23) ∧ w'.cell? ⟨gb318, 2, none⟩ = some (u319002) ∧ w'.cell? (ad322.add ((x10_6).toNat * 2)) = some (.string ((rd_T39 l0 x10_6).f0)) ∧ w'.cell? ⟨(ad322.add ((x10_6).toNat * 2)).block, (ad322.add ((x10_6).toNat * 2)).off + 1, none⟩ = some (.string ((rd_T39 l0 x10_6).f1))) (ds := [13]) (bq_ 0 14) (by kernel_rfl) rfl rfl ⟨(blk_cell BK318.out 0).trans rfl, (blk_cell BK318.out 1).trans rfl, (blk_cell BK318.out 2).trans rfl, ((HB.out.cell (World.block_lt_of_cell? w _ hw322_0)).trans hw322_0), ((HB.out.cell (World.block_lt_of_cell? w _ hw322_1)).trans hw322_1)⟩ (fun hHeld => ?_); refine with_tabW spec_ProveBetween.tab19 spec_ProveBetween.bits19 (fun HT_ HW_ => ?_)
                  generalize wr.drew = w33 at HO_319002 BK316 BK318 HB hx322_0 hx322_1 hHeld ⊢
                  refine pu_ 0 (some 71) (bq_ 1 13) HT_ ?_
                  refine pu_ 2 (some 73) #[true, false, true, false, false, false, false, false, false, false, false, false, false, false] HT_ ?_
                  refine pu_ 3 (some 74) #[true, false, true, true, false, false, false, false, false, false, false, false, false, false] HT_ ?_
                  refine pu_ 4 (some 75) #[true, false, true, true, true, false, false, false, false, false, false, false, false, false] HT_ ?_
                  refine pu_ 6 (some 77) #[true, false, true, true, true, false, true, false, false, false, false, false, false, false] HT_ ?_
                  refine pu_ 7 (some 78) #[true, false, true, true, true, false, true, true, false, false, false, false, false, false] HT_ ?_
                  refine take_ (i := 1) (N := some 72) (v := ?_) (a' := ?_) #[true, true, true, true, true, false, true, true, false, false, false, false, false, false] rfl rfl (take_ofW HT_.out HW_.out (by kernel_rfl)) (fun _ _ _ h => h) (Or.inl ⟨by rfl, ?_⟩) hHeld ?_ ?_
                  rotate_left
                  · rintro w' ⟨s0, s1, s2, s3, s4⟩
                    go_simp
                    with_reducible rfl
                  rotate_left
                  · simp only [Act.put, sa_, sz_, ss_, i64_w, i32_w]; rfl
                  refine take_ (i := 5) (N := some 76) (v := ?_) (a' := ?_) (bq_ 8 6) rfl rfl (take_ofW HT_.out HW_.out (by kernel_rfl)) (fun _ _ _ h => h) (Or.inl ⟨by rfl, ?_⟩) hHeld ?_ ?_
                  rotate_left
                  · rintro w' ⟨s0, s1, s2, s3, s4⟩
                    go_simp
                    with_reducible rfl
                  rotate_left
                  · simp only [Act.put, sa_, sz_, ss_, i64_w, i32_w]; rfl
                  refine on_ 8 (some 79) (bq_ 9 5) HT_ (fun K hK => ?_)
                  refine goes_ Try.func47 (by kernel_rfl) rfl #[.slice (some ad322) l0.length c0, .int .i64 x10_6] (by rfl) rfl rfl al_ ?_
                  with_reducible refine (spec_l4Path.calls k6 _ _ l0 x10_6 t323 _ ?side1 ?side2 A31.out).mono ?_
                  (case side1 => exact kc_ (Kd.C_below HR0.out HB.out))
                  (case side2 => exact HC0.out)
                  rintro e w34 ⟨v324, rfl, ho0, hb⟩
                  refine ⟨_, rfl, ?_⟩
                  have n0_ := Aside0.mk (Kd.S_elder' (by (with_reducible repeat (first | apply Kd.S_alloc | apply Kd.S_drewN | apply Kd.S_drew)); exact HO_319002.out) (Kd.R_base ho0) hb)
                  have n1_ := Aside0.mk (Kd.R_lower ho0 (below_size (by repeat (first | (with_reducible first | exact HB.out | apply below_alloc | apply pw_below_drewN | apply below_drew1 | refine below_set ?_ GE316.out | refine below_set ?_ GE318.out) | exact HB.out))))
                  have n2_ := Aside0.mk (blk_below (g := gb316) (o := .cells #[.int .i64 0, .int .i64 0, .slice none 0 0] 44 (0, 0)) (bk_ BK316.out) hb)
                  have n3_ := Aside0.mk (blk_below (g := gb318) (o := .cells #[.int .i64 (l0.length : Int), .int .i64 x319001_23, u319002] 44 (0, 0)) (bk_ BK318.out) hb)
                  have n4_ := Aside0.mk (below_step (by repeat (first | (with_reducible first | exact HB.out | apply below_alloc | apply pw_below_drewN | apply below_drew1 | refine below_set ?_ GE316.out | refine below_set ?_ GE318.out) | exact HB.out)) hb)
                  clear HO_319002
                  clear BK316
                  clear BK318
                  clear HB
                  have HO_319002 := n0_
                  have HO325 := n1_
                  have BK316 := n2_
                  have BK318 := n3_
                  have HB := n4_
                  clear n0_ n1_ n2_ n3_ n4_
                  (try clear hb)
                  (try clear hb2)
                  (try clear hk)
                  (try clear hi)
                  (try clear ho0)
                  obtain ⟨Ao35, co35, eo35⟩ := Kd.R_slice HO325.out
                  (first | subst eo35 | (injection eo35 with f1_ f2_ f3_; have f4_ := f1_.symm; have f5_ := f3_.symm; clear f1_ f2_ f3_; subst f4_; subst f5_))
                  refine hK.out _ _ ⟨(blk_cell BK318.out 0).trans rfl, (blk_cell BK318.out 1).trans rfl, (blk_cell BK318.out 2).trans rfl, ((HB.out.cell (World.block_lt_of_cell? w _ hw322_0)).trans hw322_0), ((HB.out.cell (World.block_lt_of_cell? w _ hw322_1)).trans hw322_1)⟩ (fun hHeld => ?_)
                  clear hK K
                  refine nm_ ?_
                  refine pu_ 9 (some 80) (bq_ 10 4) HT_ ?_
                  refine on_ 10 (some 81) (bq_ 11 3) HT_ (fun K hK => ?_)
                  refine value_ (w1 := ?_) (v := ?_) (by rfl) rfl ?_ ?_
                  rotate_left 2
                  · go_simp
                    constructor
                    · rfl
                    · rfl
                  refine hK.out _ _ ⟨(blk_cell (blk_alloc BK318.out _) 0).trans rfl, (blk_cell (blk_alloc BK318.out _) 1).trans rfl, (blk_cell (blk_alloc BK318.out _) 2).trans rfl, (World.cell?_alloc_lt _ _ _ (World.block_lt_of_cell? _ _ (((HB.out.cell (World.block_lt_of_cell? w _ hw322_0)).trans hw322_0)))).trans (((HB.out.cell (World.block_lt_of_cell? w _ hw322_0)).trans hw322_0)), (World.cell?_alloc_lt _ _ _ (World.block_lt_of_cell? _ _ (((HB.out.cell (World.block_lt_of_cell? w _ hw322_1)).trans hw322_1)))).trans (((HB.out.cell (World.block_lt_of_cell? w _ hw322_1)).trans hw322_1))⟩ (fun hHeld => ?_)
                  clear hK K
                  refine nm_ ?_
                  refine on_ 11 (some 82) (bq_ 12 2) HT_ (fun K hK => ?_)
                  refine Kd.S_append_step k79 (w0 := w) w.heap.size (by rfl) (.tmp 72) (.tmp 81) 42 79 (.agg #[(.string ⟨#[]⟩), (.string ⟨#[]⟩), (.slice none 0 0)]) 56 rfl Try.underlying42 info79 rfl (by decide) (by omega) u319002 x319002_6 (⟨(⟨(rd_T39 l0 x10_6).f0, (rd_T39 l0 x10_6).f1⟩ : S39), t323⟩ : S79) [.string ((rd_T39 l0 x10_6).f0), .string ((rd_T39 l0 x10_6).f1), .slice Ao35 t323.length co35] (fun _ => True) (fun k_ => some k_ = (.slice Ao35 t323.length co35 : Value).ownBlock) rfl rfl ?aP (fun k_ hk_ => ((Kd.R_mono (ok' := fun k_ => ((fun _ => True)) k_ ∧ some k_ ≠ (u319002 : Value).ownBlock) (Kd.R_apart' (HO325.out) (Kd.S_typed HO_319002.out) (by decide)) (fun k_ hk => ⟨trivial, hk.2⟩))).1 k_ hk_.symm) ?aF ?aO ?aB ?aS ?aL ?_
                  (case aP => exact k79_mkM _ _ _ (⟨(⟨(rd_T39 l0 x10_6).f0, (rd_T39 l0 x10_6).f1⟩ : S39), t323⟩ : S79) (Kd.R_mono (Kd.R_tight rfl (Kd.R_mono (ok' := fun k_ => ((fun _ => True)) k_ ∧ some k_ ≠ (u319002 : Value).ownBlock) (Kd.R_apart' (HO325.out) (Kd.S_typed HO_319002.out) (by decide)) (fun k_ hk => ⟨trivial, hk.2⟩))) (fun _ h_ => h_)))
                  (case aB => exact (by repeat (first | (with_reducible first | exact HB.out | apply below_alloc | apply pw_below_drewN | apply below_drew1 | refine below_set ?_ GE316.out | refine below_set ?_ GE318.out) | exact HB.out)))
                  (case aF => exact (fun _ _ => trivial))
                  (case aO => exact (by (with_reducible repeat (first | apply Kd.S_alloc | apply Kd.S_drewN | apply Kd.S_drew)); exact Kd.S_mono HO_319002.out (fun k_ hk => ⟨trivial, fun e_ => hk.2 e_⟩)))
                  (case aS => exact (below_size (by repeat (first | (with_reducible first | exact HB.out | apply below_alloc | apply pw_below_drewN | apply below_drew1 | refine below_set ?_ GE316.out | refine below_set ?_ GE318.out) | exact HB.out))))
                  (case aL => have := LMc32.out; omega)
                  intro v327 w36 ho hb hg hat
                  rw [← Ny326.out] at ho
                  have n0_ := Aside0.mk (blk_grown (g := gb316) (o := .cells #[.int .i64 0, .int .i64 0, .slice none 0 0] 44 (0, 0)) (bk_ BK316.out) hg (Kd.S_ne HO_319002.out BK316.out (by decide)))
                  have n1_ := Aside0.mk (blk_grown (g := gb318) (o := .cells #[.int .i64 (l0.length : Int), .int .i64 x319001_23, u319002] 44 (0, 0)) (bk_ BK318.out) hg (Kd.S_ne HO_319002.out BK318.out (by decide)))
                  have n2_ := Aside0.mk (hb)
                  have n3_ := Aside0.mk (ho)
                  clear BK316
                  clear BK318
                  clear HB
                  clear HO_319002
                  clear HO325
                  have BK316 := n0_
                  have BK318 := n1_
                  have HB := n2_
                  have HO328 := n3_
                  clear n0_ n1_ n2_ n3_
                  clear ho hb hg hat
                  obtain ⟨Ao37, co37, eo37⟩ := Kd.S_slice HO328.out
                  (first | subst eo37 | (injection eo37 with f1_ f2_ f3_; have f4_ := f1_.symm; have f5_ := f3_.symm; clear f1_ f2_ f3_; subst f4_; subst f5_))
                  refine hK.out _ _ ⟨(blk_cell BK318.out 0).trans rfl, (blk_cell BK318.out 1).trans rfl, (blk_cell BK318.out 2).trans rfl, ((HB.out.cell (World.block_lt_of_cell? w _ hw322_0)).trans hw322_0), ((HB.out.cell (World.block_lt_of_cell? w _ hw322_1)).trans hw322_1)⟩ (fun hHeld => ?_)
                  clear hK K
                  refine nm_ ?_
                  refine pu_ 12 (some 83) (bq_ 13 1) HT_ ?_
                  refine last_ (i := 13) (N := none) (bq_ 14 0) rfl rfl (one_of HT_.out (by kernel_rfl)) (by decide) (fun K hK => ?_)
                  have hs38 : w36.cell? ⟨gb318, 2, none⟩ = some (u319002) := (blk_cell BK318.out 2).trans rfl
                  have hfs38 := blk_frozen BK318.out 2
                  have hns38_0 := NB316_318.out
                  have hms38_0 := NB318_316.out
                  refine skip_ (w1 := ?_) (by rfl) rfl ?_ ?_
                  rotate_left
                  · go_simp
                    rfl
                  refine hK.out _ _ ?_
                  clear hK K
                  refine done_ (done_of HT_.out (by kernel_rfl)) ?_
                  try go_wp2
                  go_roundg k6
                  case measure => have := HJ5.out; have := HJ14.out; have := HJ19.out; have := HJ21.out; have := HJ23.out; have := HK6.out; omega
                  case rel => exact ⟨(wrap64 (x10_6 + 1)), (y326), (.slice Ao37 y326.length co37), (by first | rfl | (simp; done) | (simp [*]; done)), H', ⟨by have := HJ5.out; have := HJ14.out; have := HJ19.out; have := HJ21.out; have := HJ23.out; have := HK6.out; omega⟩, ⟨by (with_reducible repeat (first | apply Kd.S_alloc | apply Kd.S_drewN | apply Kd.S_drew)); exact Kd.S_mono (Kd.S_far (p := ⟨gb318, 2, none⟩) (Kd.S_types HO328.out BK318.out (by decide)) (fun _ hk => hk.2) (.slice Ao37 y326.length co37)) (fun _ hk => trivial)⟩, ⟨by (with_reducible repeat (first | refine blk_drewN ?_ _ | refine blk_drew ?_ | refine blk_alloc ?_ _)); refine blk_far ?_ NB316_318.out _; (with_reducible repeat (first | refine blk_drewN ?_ _ | refine blk_drew ?_ | refine blk_alloc ?_ _)); exact BK316.out⟩, ⟨by (with_reducible repeat (first | refine blk_drewN ?_ _ | refine blk_drew ?_ | refine blk_alloc ?_ _)); refine blk_put (cs := #[.int .i64 (l0.length : Int), .int .i64 x319001_23, u319002]) ?_ 2 _ rfl; (with_reducible repeat (first | refine blk_drewN ?_ _ | refine blk_drew ?_ | refine blk_alloc ?_ _)); exact BK318.out⟩, ⟨by repeat (first | (with_reducible first | exact HB.out | apply below_alloc | apply pw_below_drewN | apply below_drew1 | refine below_set ?_ GE316.out | refine below_set ?_ GE318.out) | exact HB.out)⟩⟩
                · rw [if_neg c28] at H
                  have c28b0 : decide (x10_6 < x9_21) = false := decide_eq_false c28
                  clear c28
                  simp only [Option.some.injEq, Prod.mk.injEq] at H
                  obtain ⟨rfl, rfl, rfl⟩ := H
                  have hnb39 := NB318_316.out
                  have hnc39 := NB316_318.out
                  have hcz40_0 : wr.cell? ⟨gb318, 0, none⟩ = some (.int .i64 (l0.length : Int)) := (blk_cell BK318.out 0).trans rfl
                  have hcz40_1 : wr.cell? ⟨gb318, 1, none⟩ = some (.int .i64 x319001_23) := (blk_cell BK318.out 1).trans rfl
                  have hcz40_2 : wr.cell? ⟨gb318, 2, none⟩ = some (u319002) := (blk_cell BK318.out 2).trans rfl
                  have hfz40_0 := blk_frozen BK318.out 0
                  have hfz40_1 := blk_frozen BK318.out 1
                  have hfz40_2 := blk_frozen BK318.out 2
                  have hcz41_0 : wr.cell? ⟨gb316, 0, none⟩ = some (.int .i64 0) := (blk_cell BK316.out 0).trans rfl
                  have hcz41_1 : wr.cell? ⟨gb316, 1, none⟩ = some (.int .i64 0) := (blk_cell BK316.out 1).trans rfl
                  have hcz41_2 : wr.cell? ⟨gb316, 2, none⟩ = some (.slice none 0 0) := (blk_cell BK316.out 2).trans rfl
                  have hfz41_0 := blk_frozen BK316.out 0
                  have hfz41_1 := blk_frozen BK316.out 1
                  have hfz41_2 := blk_frozen BK316.out 2
                  obtain ⟨Ao42, co42, eo42⟩ := Kd.S_slice HO_319002.out
                  subst eo42
                  go_wp2
                  refine bodyPost_ret (results_cell_row rfl _ _ gb316 44 #[.int .i64 (l0.length : Int), .int .i64 x319001_23, .slice Ao42 x319002_6.length co42] (0, 0) _ rfl (by (with_reducible repeat (first | refine blk_drewN ?_ _ | refine blk_drew ?_ | refine blk_alloc ?_ _)); refine blk_put (cs := #[.int .i64 (l0.length : Int), .int .i64 x319001_23, .slice none 0 0]) ?_ 2 _ rfl; (with_reducible repeat (first | refine blk_drewN ?_ _ | refine blk_drew ?_ | refine blk_alloc ?_ _)); refine blk_put (cs := #[.int .i64 (l0.length : Int), .int .i64 0, .slice none 0 0]) ?_ 1 _ rfl; (with_reducible repeat (first | refine blk_drewN ?_ _ | refine blk_drew ?_ | refine blk_alloc ?_ _)); refine blk_put (cs := #[.int .i64 0, .int .i64 0, .slice none 0 0]) ?_ 0 _ rfl; (with_reducible repeat (first | refine blk_drewN ?_ _ | refine blk_drew ?_ | refine blk_alloc ?_ _)); exact BK316.out) Try.underlying44 rfl (by kernel_rfl)) rfl ?_
                  exact ⟨_, by first | rfl | (simp [errW_none, errW_some] <;> rfl) | (simp [*, errW_none, errW_some] <;> rfl), by (with_reducible repeat (first | apply Kd.S_alloc | apply Kd.S_drewN | apply Kd.S_drew)); exact Kd.S_mono (Kd.S_far (p := ⟨gb316, 2, none⟩) (Kd.S_far (p := ⟨gb316, 1, none⟩) (Kd.S_far (p := ⟨gb316, 0, none⟩) (Kd.S_types HO_319002.out BK316.out (by decide)) (fun _ hk => hk.2) (.int .i64 (l0.length : Int))) (fun _ hk => hk.2) (.int .i64 x319001_23)) (fun _ hk => hk.2) (.slice Ao42 x319002_6.length co42)) (fun _ hk => trivial), by repeat (first | (with_reducible first | exact HB.out | apply below_alloc | apply pw_below_drewN | apply below_drew1 | refine below_set ?_ GE316.out | refine below_set ?_ GE318.out) | exact HB.out)⟩
  · replace c5 := Bool.eq_false_iff.mpr c5
    subst c5
    have H1 : (some (0, 0, ([] : List (S79)))) = some (r1, r2, r3) := by rw [if_neg (show ¬ (false = true) by decide)] at H; exact H
    clear H
    have H := H1
    clear H1
    simp only [Option.some.injEq, Prod.mk.injEq] at H
    obtain ⟨rfl, rfl, rfl⟩ := H
    go_enter Try.func19, Try.ntmps19
    go_wp2_with (first | ((with_reducible refine gate_dst (N := 6) rfl ?_); refine box_event ?hg (N := 6) ?hd (cs := #[.int .i64 0, .int .i64 0, .slice none 0 0]) (t := 44) ?hr ?_; (case hd => rfl); (case hg => rfl); (case hr => first | (go_simp; done) | (go_simp; rfl)); intro gb316 hg w43 hbox hb; have n0_ := Aside0.mk (below_step (be_ HB.out) hb); have n1_ := Aside0.mk (hbox); have n2_ := Aside0.mk ((by rw [hg]; exact (below_size (be_ HB.out)) : w.heap.size ≤ gb316)); have n3_ := Aside0.mk ((by rw [hg]; exact (below_size (be_ HB.out)) : w.heap.size ≤ gb316)); clear HB; have HB := n0_; have BK316 := n1_; have GW316 := n2_; have GE316 := n3_; clear n0_ n1_ n2_ n3_; clear hb hbox hg) | ((with_reducible refine gate_callee (f := 45) rfl ?_); refine goesL_ (some 12) rfl rfl Try.func45 (by kernel_rfl) rfl #[.slice A0 l0.length c0] rfl al_ ?_; (with_reducible refine (spec_PairsOk.calls k _ _ l0 false _ ?side1 ?side2 A4.out).mono ?_); (case side1 => exact kc_ (Kd.C_below HR0.out HB.out)); (case side2 => exact HC0.out); rintro e w44 ⟨rfl, hb⟩; refine ⟨_, rfl, ?_⟩; have n0_ := Aside0.mk (blk_below (g := gb316) (o := .cells #[.int .i64 0, .int .i64 0, .slice none 0 0] 44 (0, 0)) (bk_ BK316.out) hb); have n1_ := Aside0.mk (below_step (bs_ HB.out GE316.out) hb); clear BK316; clear HB; have BK316 := n0_; have HB := n1_; clear n0_ n1_; (try clear hb); (try clear hb2); (try clear hk); (try clear hi); have hcz45_0 : w44.cell? ⟨gb316, 0, none⟩ = some (.int .i64 0) := (blk_cell BK316.out 0).trans rfl; have hcz45_1 : w44.cell? ⟨gb316, 1, none⟩ = some (.int .i64 0) := (blk_cell BK316.out 1).trans rfl; have hcz45_2 : w44.cell? ⟨gb316, 2, none⟩ = some (.slice none 0 0) := (blk_cell BK316.out 2).trans rfl; have hfz45_0 := blk_frozen BK316.out 0; have hfz45_1 := blk_frozen BK316.out 1; have hfz45_2 := blk_frozen BK316.out 2))
    refine bodyPost_ret (results_cell_row rfl _ _ gb316 44 #[.int .i64 0, .int .i64 0, .slice none 0 0] (0, 0) _ rfl (by (with_reducible repeat (first | refine blk_drewN ?_ _ | refine blk_drew ?_ | refine blk_alloc ?_ _)); refine blk_put (cs := #[.int .i64 0, .int .i64 0, .slice none 0 0]) ?_ 2 _ rfl; (with_reducible repeat (first | refine blk_drewN ?_ _ | refine blk_drew ?_ | refine blk_alloc ?_ _)); refine blk_put (cs := #[.int .i64 0, .int .i64 0, .slice none 0 0]) ?_ 1 _ rfl; (with_reducible repeat (first | refine blk_drewN ?_ _ | refine blk_drew ?_ | refine blk_alloc ?_ _)); refine blk_put (cs := #[.int .i64 0, .int .i64 0, .slice none 0 0]) ?_ 0 _ rfl; (with_reducible repeat (first | refine blk_drewN ?_ _ | refine blk_drew ?_ | refine blk_alloc ?_ _)); exact BK316.out) Try.underlying44 rfl (by kernel_rfl)) rfl ?_
    exact ⟨_, by first | rfl | (simp [errW_none, errW_some] <;> rfl) | (simp [*, errW_none, errW_some] <;> rfl), by first | exact Kd.S_nil _ _ _ _ _ | exact Kd.N_nil _ _ _ _ _ | exact Kd.V_nil _ _ _ _ _ | exact Kd.Q_nil _ _ _ _ _ | exact Kd.R_nil _ _ _ _ _, bs_ HB.out GE316.out⟩

end Go.Proofs.Ytbelaenekbflfaa.P
