-- Written by wip/xp/xp.py over the kit's print; Lean checks it.
import Derived.Test.YthkaifddpjjmaaaPx0
import Derived.Test.YthkaifddpjjmaaaPx2
import Derived.Test.YthkaifddpjjmaaaPx5
namespace Go.Proofs.Ythkaifddpjjmaaa.P
open Go.RowKit Go.Proofs.YthkaifddpjjmaaaW.PrintWords Go.Proofs.YthkaifddpjjmaaaW.PrintLast Go.Proofs.YthkaifddpjjmaaaW.PrintMore
attribute [local go_sem] max2_int min2_int max_two min_two max_three min_three max_four min_four   -- for this text's walks alone
set_option linter.unusedVariables false
set_option linter.unusedSimpArgs false

/-! ###  spec_l4Path: function 36 -/
def spec_l4Path.f : Nat → List (S26) → Int → Option (List ByteArray)
  | 0, _, _ => none
  | k + 1, l0, a1 => if (l0.length : Int) < 2 then (some (([] : List ByteArray))) else ((spec_l4Half.f k (l0.length : Int)).bind fun t369 => (if a1 < t369 then (if 0 ≤ t369 then (if t369 ≤ (l0.length : Int) then ((spec_l4Path.f k (l0.take (t369 : Int).toNat) a1).bind fun t374 => ((spec_l4Inner.f k (l0.drop (t369 : Int).toNat)).bind fun t381 => (if t374.length < 8796093022208 then (some (t374 ++ [t381])) else (none)))) else (none)) else (none)) else (if 0 ≤ t369 then (if t369 ≤ (l0.length : Int) then ((spec_l4Path.f k (l0.drop (t369 : Int).toNat) (wrap64 (a1 - t369))).bind fun t389 => ((spec_l4Inner.f k (l0.take (t369 : Int).toNat)).bind fun t396 => (if t389.length < 8796093022208 then (some (t389 ++ [t396])) else (none)))) else (none)) else (none))))
def spec_l4Path.T5 : Bool × List (List Nat × List Nat) := (true, [([], []), ([], []), ([0, 1], [0, 1]), ([], []), ([2, 3], [2, 3]), ([], []), ([], []), ([5, 6], [5, 6]), ([7, 4], [7]), ([8], [8]), ([4, 9, 8], [4, 9]), ([10, 10, 0, 1, 2, 3, 4, 5, 6, 7, 8, 9, 10], [10])])
def spec_l4Path.B5 : List Nat := [0, 0, 3, 0, 15, 0, 0, 96, 255, 511, 1023, 2047]
theorem spec_l4Path.tab5 : rtab .any (opsOf Try.f36 5) = spec_l4Path.T5 := by kernel_rfl
theorem spec_l4Path.bits5 : waitsOk spec_l4Path.T5.2 spec_l4Path.B5 = true := by kernel_rfl
def spec_l4Path.T6 : Bool × List (List Nat × List Nat) := (true, [([], []), ([], []), ([0, 1], [0, 1]), ([], []), ([], []), ([3, 4], [3, 4]), ([2, 5], [2, 5]), ([], []), ([], []), ([7, 8], [7, 8]), ([9, 6], [9]), ([10], [10]), ([6, 11, 10], [6, 11]), ([12, 12, 0, 1, 2, 3, 4, 5, 6, 7, 8, 9, 10, 11, 12], [12])])
def spec_l4Path.B6 : List Nat := [0, 0, 3, 0, 0, 24, 63, 0, 0, 384, 1023, 2047, 4095, 8191]
theorem spec_l4Path.tab6 : rtab .any (opsOf Try.f36 6) = spec_l4Path.T6 := by kernel_rfl
theorem spec_l4Path.bits6 : waitsOk spec_l4Path.T6.2 spec_l4Path.B6 = true := by kernel_rfl
set_option maxHeartbeats 8000000 in
set_option maxRecDepth 100000 in
theorem spec_l4Path.calls (k : Nat) : ∀ (A0 : Option Addr) (c0 : Nat) (l0 : List (S26)) (a1 : Int) (r : List ByteArray) (w : World) (hr0 : Kd.C k26 w A0 l0.length l0) (hc0 : l0.length ≤ c0) (h : spec_l4Path.f k l0 a1 = some r),
  Calls Try.prog 36 #[.slice A0 l0.length c0, .int .i64 a1] w fun e w' => ∃ v0_ : Value, e = .returned (v0_) ∧ Kd.R Kd.string 9 w' w.heap.size (fun _ => True) v0_ r ∧ Below w.heap.size w w' := by
  induction k using Nat.strongRecOn with
  | _ k ih =>
  intro A0 c0 l0 a1 r w hr0 hc0 h
  cases k with
  | zero => exact absurd h (by simp [spec_l4Path.f])
  | succ k =>
  simp only [spec_l4Path.f] at h
  have HR0 := Aside0.mk hr0
  have HC0 := Aside0.mk hc0
  clear hr0 hc0
  have HB := q_ (Below.refl w.heap.size w)
  have H : (if (l0.length : Int) < 2 then (some (([] : List ByteArray))) else ((spec_l4Half.f k (l0.length : Int)).bind fun t369 => (if a1 < t369 then (if 0 ≤ t369 then (if t369 ≤ (l0.length : Int) then ((spec_l4Path.f k (l0.take (t369 : Int).toNat) a1).bind fun t374 => ((spec_l4Inner.f k (l0.drop (t369 : Int).toNat)).bind fun t381 => (if t374.length < 8796093022208 then (some (t374 ++ [t381])) else (none)))) else (none)) else (none)) else (if 0 ≤ t369 then (if t369 ≤ (l0.length : Int) then ((spec_l4Path.f k (l0.drop (t369 : Int).toNat) (wrap64 (a1 - t369))).bind fun t389 => ((spec_l4Inner.f k (l0.take (t369 : Int).toNat)).bind fun t396 => (if t389.length < 8796093022208 then (some (t389 ++ [t396])) else (none)))) else (none)) else (none))))) = some r := h
  clear h
  by_cases c3 : (l0.length : Int) < 2
  · rw [if_pos c3] at H
    have c3b0 := decide_eq_true c3
    have c3b1 : decide (l0.length < 2) = true := decide_eq_true (by omega)
    clear c3
    obtain ⟨y366, hy366⟩ : ∃ y_ : List ByteArray, y_ = (([] : List ByteArray)) := ⟨_, rfl⟩
    replace H : (some y366) = some r := ry_ hy366 H
    have Ny366 := Aside0.mk hy366
    clear hy366
    obtain rfl := Option.some.inj H
    go_enter Try.func36, Try.ntmps36
    go_wp2_with (first | ((with_reducible refine gate_dst (N := 9) rfl ?_); refine Kd.R_lit Kd.string _ 9 ?hg (N := 9) ?hd (xs := ([] : List ByteArray)) (inner := []) (ok := fun _ => True) (okp := fun _ => True) ?hr ?hp (fun _ hk => hk) trivial (Below.refl _ _) (Nat.le_refl _) (by simp) ?_; (case hd => rfl); (case hg => rfl); (case hr => first | (go_simp; done) | (go_simp; rfl)); (case hp => exact (Reps.none _ _)); intro v367 w4 ho5 hb hg_ hnew_; clear hg_ hnew_; (first | rw [← Ny366.out] at ho5 | (simp only [Int.reduceToNat] at ho5; rw [← Ny366.out] at ho5)); have HO368 := q_ (Kd.R_lower ho5 (below_size (be_ HB.out))); replace HB := q_ (below_step (be_ HB.out) hb); clear hb ho5))
    go_ret
    exact ⟨_, rf_, by (with_reducible repeat (first | apply Kd.R_alloc | apply Kd.R_drewN | apply Kd.R_drew)); exact HO368.out, be_ HB.out⟩
  · rw [if_neg c3] at H
    have c3b0 := decide_eq_false c3
    have c3b1 : decide (l0.length < 2) = false := decide_eq_false (by omega)
    clear c3
    obtain ⟨t369, A6, H⟩ := bo_ H
    by_cases c7 : a1 < t369
    · rw [if_pos c7] at H
      have c7b0 := decide_eq_true c7
      clear c7
      obtain ⟨c8, H⟩ := ip_ H
      have c8b0 := eq_true c8
      have c8b1 : decide (0 ≤ t369) = true := decide_eq_true c8
      clear c8
      obtain ⟨c9, H⟩ := ip_ H
      have c9b0 := eq_true c9
      have c9b1 : decide (t369 ≤ (l0.length : Int)) = true := decide_eq_true c9
      clear c9
      obtain ⟨y370, hy370⟩ : ∃ y_ : List (S26), y_ = (l0.take (t369 : Int).toNat) := ⟨_, rfl⟩
      replace H : ((spec_l4Path.f k y370 a1).bind fun t374 => ((spec_l4Inner.f k (l0.drop (t369 : Int).toNat)).bind fun t381 => (if t374.length < 8796093022208 then (some (t374 ++ [t381])) else (none)))) = some r := ry_ hy370 H
      have Ny370 := Aside0.mk hy370
      clear hy370
      obtain ⟨t374, A10, H⟩ := bo_ H
      have c11b0 := eq_true (od_ : 0 ≤ t369)
      have c12b0 := eq_true (od_ : t369 ≤ (l0.length : Int))
      obtain ⟨y377, hy377⟩ : ∃ y_ : List (S26), y_ = (l0.drop (t369 : Int).toNat) := ⟨_, rfl⟩
      replace H : ((spec_l4Inner.f k y377).bind fun t381 => (if t374.length < 8796093022208 then (some (t374 ++ [t381])) else (none))) = some r := ry_ hy377 H
      have Ny377 := Aside0.mk hy377
      clear hy377
      obtain ⟨t381, A13, H⟩ := bo_ H
      obtain ⟨c14, H⟩ := ip_ H
      have LMc14 := Aside0.mk c14
      clear c14
      obtain ⟨y382, hy382⟩ : ∃ y_ : List ByteArray, y_ = (t374 ++ [t381]) := ⟨_, rfl⟩
      replace H : (some y382) = some r := ry_ hy382 H
      have Ny382 := Aside0.mk hy382
      clear hy382
      obtain rfl := Option.some.inj H
      go_enter Try.func36, Try.ntmps36
      try go_wp2_with (first | ((with_reducible refine gate_callee (f := 78) rfl ?_); refine gl_ (some 12) Try.func78 #[.int .i64 (l0.length : Int)] rfl al_ ?_; (with_reducible refine (spec_l4Half.calls k (l0.length : Int) t369 _ A6.out).mono ?_); rintro e w' ⟨rfl, ⟨nd, rfl⟩⟩; refine ⟨_, rfl, ?_⟩))
      replace HB := q_ (below_drew1 (pw_below_drewN HB.out nd))
      have q16 : (t369 : Int) ≤ ((l0.length : Int) : Int) := od_
      obtain ⟨i016, hi016, _, hsz16, _⟩ := info_parts info26
      have hroom16 : l0.length ≤ c0 := HC0.out
      have hC16 : Kd.C k26 _ A0 l0.length l0 := HR0.out
      have hcut16 := cut_to (P := Try.prog) 24 26 .i64 Try.underlying24 hi016 A0 l0.length c0 t369 od_ q16 hroom16
      have hr16 := Kd.C_take (m := (t369 : Int).toNat) hC16 (by omega)
      have hy16 : y370.length = (t369 : Int).toNat := (by rw [Ny370.out, List.length_take]; omega)
      rw [← Ny370.out] at hr16
      rw [← hy16] at hcut16
      have HR373 := Aside0.mk hr16
      have HC373 := q_ (show y370.length ≤ c0 from by omega)
      clear hr16 hC16 hroom16 hi016 hsz16
      have KY16 := Aside0.mk hy16
      clear hy16
      replace q16 := eq_true q16
      have q17 : (t369 : Int) ≤ ((l0.length : Int) : Int) := od_
      obtain ⟨i017, hi017, _, hsz17, _⟩ := info_parts info26
      have hroom17 : l0.length ≤ c0 := HC0.out
      have hC17 : Kd.C k26 _ A0 l0.length l0 := HR0.out
      have q017 : (0 : Int) ≤ (t369 : Int) := od_
      have hcut17 := cut_from (P := Try.prog) 24 26 .i64 Try.underlying24 hi017 2 hsz17 A0 l0.length c0 t369 q017 q17
      have hr17 := Kd.C_drop (m := (t369 : Int).toNat) (c := c0) hC17 (by omega) hroom17
      obtain ⟨A17, hA17⟩ : ∃ A1, A1 = (if c0 = (t369 : Int).toNat then A0 else (A0 : Option Addr).map (·.add ((t369 : Int).toNat * 2))) := ⟨_, rfl⟩
      obtain ⟨c17, hc17⟩ : ∃ c1, c1 = c0 - (t369 : Int).toNat := ⟨_, rfl⟩
      have hy17 : y377.length = l0.length - (t369 : Int).toNat := (by rw [Ny377.out, List.length_drop] <;> omega)
      rw [show (l0).drop (t369 : Int).toNat = y377 from Ny377.out.symm] at hr17
      replace hr17 : Kd.C k26 _ A17 y377.length y377 := (by rw [hA17]; exact hr17)
      rw [← hy17, ← hA17, ← hc17] at hcut17
      have HR380 := Aside0.mk hr17
      have HC380 := q_ (show y377.length ≤ c17 from by rw [hy17, hc17]; exact Nat.sub_le_sub_right hroom17 _)
      clear hr17 hC17 hroom17 hi017 hsz17 hc17
      have KY17 := Aside0.mk hy17
      have KA17 := Aside0.mk hA17
      clear hy17 hA17
      replace q17 := eq_true q17
      refine start_ (n := 12) (S := fun w' => True) (ds := []) (bq_ 0 12) (by kernel_rfl) rfl rfl trivial (fun hHeld => ?_); refine with_tabW spec_l4Path.tab5 spec_l4Path.bits5 (fun HT_ HW_ => ?_)
      generalize (World.drewN w nd).drew = w15 at HB HR373 HR380 hHeld ⊢
      refine p_ 0 16 HT_ ?_; refine p_ 1 17 HT_ ?_; refine p_ 2 18 HT_ ?_; refine p_ 3 19 HT_ ?_; refine p_ 5 21 HT_ ?_; refine p_ 6 22 HT_ ?_; refine p_ 7 23 HT_ ?_
      refine oc_ 4 20 (bq_ 8 4) HT_ Try.func36 #[.slice A0 y370.length c0, .int .i64 a1] ?_
      with_reducible refine (ih k (by omega) _ _ y370 a1 t374 _ ?side1 ?side2 A10.out).mono ?_
      (case side1 => exact kc_ (Kd.C_below HR373.out HB.out))
      (case side2 => exact HC373.out)
      rintro e w18 ⟨v375, rfl, ho0, hb⟩
      refine ⟨_, rfl, ?_⟩
      have HO376 := q_ (Kd.R_lower ho0 (below_size (be_ HB.out)))
      replace HB := q_ (below_step (be_ HB.out) hb)
      (try clear hb)
      (try clear hb2)
      (try clear hk)
      (try clear hi)
      (try clear ho0)
      refine ⟨trivial, fun hHeld => nm_ ?_⟩
      refine oc_ 8 24 (bq_ 9 3) HT_ Try.func79 #[.slice A17 y377.length c17] ?_
      with_reducible refine (spec_l4Inner.calls k _ _ y377 t381 _ ?side1 ?side2 A13.out).mono ?_
      (case side1 => exact kc_ (Kd.C_below HR380.out HB.out))
      (case side2 => exact HC380.out)
      rintro e w19 ⟨rfl, hb⟩
      refine ⟨_, rfl, ?_⟩
      replace HO376 := q_ (Kd.R_below (kr_ HO376.out) hb)
      replace HB := q_ (below_step (be_ HB.out) hb)
      (try clear hb)
      (try clear hb2)
      (try clear hk)
      (try clear hi)
      refine ⟨trivial, fun hHeld => nm_ ?_⟩
      refine on_ 9 (some 25) (bq_ 10 2) HT_ (fun K hK => ?_)
      refine value_ (w1 := ?_) (v := ?_) (by rfl) rfl ?_ ?_
      rotate_left 2
      · go_simp
        constructor
        · rfl
        · rfl
      refine hK.out _ _ trivial (fun hHeld => ?_)
      clear hK K
      refine nm_ ?_
      refine on_ 10 (some 26) (bq_ 11 1) HT_ (fun K hK => ?_)
      refine Kd.R_append_step Kd.string (w0 := w) w.heap.size (by rfl) (.tmp 20) (.tmp 25) 27 9 (.string ⟨#[]⟩) 16 rfl Try.underlying27 info9 rfl (by decide) (by omega) v375 t374 t381 [.string t381] (fun _ => True) (fun _ => False) rfl rfl ?aP (fun _ hk => hk.elim) ?aF ?aO ?aB ?aS ?aL ?_
      (case aP => exact rfl)
      (case aB => exact (be_ HB.out))
      (case aF => exact (fun _ _ => trivial))
      (case aO => exact (kr_ HO376.out))
      (case aS => exact (below_size (be_ HB.out)))
      (case aL => have := LMc14.out; omega)
      intro v383 w20 ho hb hg hat
      rw [← Ny382.out] at ho
      have n0_ := q_ (hb)
      have n1_ := q_ (ho)
      clear HB
      clear HO376
      have HB := n0_
      have HO384 := n1_
      clear n0_ n1_
      clear ho hb hg hat
      refine hK.out _ _ trivial (fun hHeld => ?_)
      clear hK K
      refine nm_ ?_
      refine p_ 11 4 HT_ ?_
      refine done_ (done_of HT_.out (by kernel_rfl)) ?_
      try go_wp2
      go_ret
      exact ⟨_, rf_, by (with_reducible repeat (first | apply Kd.R_alloc | apply Kd.R_drewN | apply Kd.R_drew)); exact HO384.out, be_ HB.out⟩
    · rw [if_neg c7] at H
      have c7b0 := decide_eq_false c7
      clear c7
      obtain ⟨c21, H⟩ := ip_ H
      have c21b0 := eq_true c21
      have c21b1 : decide (0 ≤ t369) = true := decide_eq_true c21
      clear c21
      obtain ⟨c22, H⟩ := ip_ H
      have c22b0 := eq_true c22
      have c22b1 : decide (t369 ≤ (l0.length : Int)) = true := decide_eq_true c22
      clear c22
      obtain ⟨y385, hy385⟩ : ∃ y_ : List (S26), y_ = (l0.drop (t369 : Int).toNat) := ⟨_, rfl⟩
      replace H : ((spec_l4Path.f k y385 (wrap64 (a1 - t369))).bind fun t389 => ((spec_l4Inner.f k (l0.take (t369 : Int).toNat)).bind fun t396 => (if t389.length < 8796093022208 then (some (t389 ++ [t396])) else (none)))) = some r := ry_ hy385 H
      have Ny385 := Aside0.mk hy385
      clear hy385
      obtain ⟨t389, A23, H⟩ := bo_ H
      have c24b0 := eq_true (od_ : 0 ≤ t369)
      have c25b0 := eq_true (od_ : t369 ≤ (l0.length : Int))
      obtain ⟨y392, hy392⟩ : ∃ y_ : List (S26), y_ = (l0.take (t369 : Int).toNat) := ⟨_, rfl⟩
      replace H : ((spec_l4Inner.f k y392).bind fun t396 => (if t389.length < 8796093022208 then (some (t389 ++ [t396])) else (none))) = some r := ry_ hy392 H
      have Ny392 := Aside0.mk hy392
      clear hy392
      obtain ⟨t396, A26, H⟩ := bo_ H
      obtain ⟨c27, H⟩ := ip_ H
      have LMc27 := Aside0.mk c27
      clear c27
      obtain ⟨y397, hy397⟩ : ∃ y_ : List ByteArray, y_ = (t389 ++ [t396]) := ⟨_, rfl⟩
      replace H : (some y397) = some r := ry_ hy397 H
      have Ny397 := Aside0.mk hy397
      clear hy397
      obtain rfl := Option.some.inj H
      go_enter Try.func36, Try.ntmps36
      try go_wp2_with (first | ((with_reducible refine gate_callee (f := 78) rfl ?_); refine gl_ (some 12) Try.func78 #[.int .i64 (l0.length : Int)] rfl al_ ?_; (with_reducible refine (spec_l4Half.calls k (l0.length : Int) t369 _ A6.out).mono ?_); rintro e w' ⟨rfl, ⟨nd, rfl⟩⟩; refine ⟨_, rfl, ?_⟩))
      replace HB := q_ (below_drew1 (pw_below_drewN HB.out nd))
      have q29 : (t369 : Int) ≤ ((l0.length : Int) : Int) := od_
      obtain ⟨i029, hi029, _, hsz29, _⟩ := info_parts info26
      have hroom29 : l0.length ≤ c0 := HC0.out
      have hC29 : Kd.C k26 _ A0 l0.length l0 := HR0.out
      have q029 : (0 : Int) ≤ (t369 : Int) := od_
      have hcut29 := cut_from (P := Try.prog) 24 26 .i64 Try.underlying24 hi029 2 hsz29 A0 l0.length c0 t369 q029 q29
      have hr29 := Kd.C_drop (m := (t369 : Int).toNat) (c := c0) hC29 (by omega) hroom29
      obtain ⟨A29, hA29⟩ : ∃ A1, A1 = (if c0 = (t369 : Int).toNat then A0 else (A0 : Option Addr).map (·.add ((t369 : Int).toNat * 2))) := ⟨_, rfl⟩
      obtain ⟨c29, hc29⟩ : ∃ c1, c1 = c0 - (t369 : Int).toNat := ⟨_, rfl⟩
      have hy29 : y385.length = l0.length - (t369 : Int).toNat := (by rw [Ny385.out, List.length_drop] <;> omega)
      rw [show (l0).drop (t369 : Int).toNat = y385 from Ny385.out.symm] at hr29
      replace hr29 : Kd.C k26 _ A29 y385.length y385 := (by rw [hA29]; exact hr29)
      rw [← hy29, ← hA29, ← hc29] at hcut29
      have HR388 := Aside0.mk hr29
      have HC388 := q_ (show y385.length ≤ c29 from by rw [hy29, hc29]; exact Nat.sub_le_sub_right hroom29 _)
      clear hr29 hC29 hroom29 hi029 hsz29 hc29
      have KY29 := Aside0.mk hy29
      have KA29 := Aside0.mk hA29
      clear hy29 hA29
      replace q29 := eq_true q29
      have q30 : (t369 : Int) ≤ ((l0.length : Int) : Int) := od_
      obtain ⟨i030, hi030, _, hsz30, _⟩ := info_parts info26
      have hroom30 : l0.length ≤ c0 := HC0.out
      have hC30 : Kd.C k26 _ A0 l0.length l0 := HR0.out
      have hcut30 := cut_to (P := Try.prog) 24 26 .i64 Try.underlying24 hi030 A0 l0.length c0 t369 od_ q30 hroom30
      have hr30 := Kd.C_take (m := (t369 : Int).toNat) hC30 (by omega)
      have hy30 : y392.length = (t369 : Int).toNat := (by rw [Ny392.out, List.length_take]; omega)
      rw [← Ny392.out] at hr30
      rw [← hy30] at hcut30
      have HR395 := Aside0.mk hr30
      have HC395 := q_ (show y392.length ≤ c0 from by omega)
      clear hr30 hC30 hroom30 hi030 hsz30
      have KY30 := Aside0.mk hy30
      clear hy30
      replace q30 := eq_true q30
      refine start_ (n := 14) (S := fun w' => True) (ds := []) (bq_ 0 14) (by kernel_rfl) rfl rfl trivial (fun hHeld => ?_); refine with_tabW spec_l4Path.tab6 spec_l4Path.bits6 (fun HT_ HW_ => ?_)
      generalize (World.drewN w nd).drew = w28 at HB HR388 HR395 hHeld ⊢
      refine p_ 0 27 HT_ ?_; refine p_ 1 28 HT_ ?_; refine p_ 2 29 HT_ ?_; refine p_ 3 30 HT_ ?_; refine p_ 4 31 HT_ ?_; refine p_ 5 32 HT_ ?_; refine p_ 7 34 HT_ ?_; refine p_ 8 35 HT_ ?_; refine p_ 9 36 HT_ ?_
      refine oc_ 6 33 (bq_ 10 4) HT_ Try.func36 #[.slice A29 y385.length c29, .int .i64 (wrap64 (a1 - t369))] ?_
      with_reducible refine (ih k (by omega) _ _ y385 (wrap64 (a1 - t369)) t389 _ ?side1 ?side2 A23.out).mono ?_
      (case side1 => exact kc_ (Kd.C_below HR388.out HB.out))
      (case side2 => exact HC388.out)
      rintro e w31 ⟨v390, rfl, ho0, hb⟩
      refine ⟨_, rfl, ?_⟩
      have HO391 := q_ (Kd.R_lower ho0 (below_size (be_ HB.out)))
      replace HB := q_ (below_step (be_ HB.out) hb)
      (try clear hb)
      (try clear hb2)
      (try clear hk)
      (try clear hi)
      (try clear ho0)
      refine ⟨trivial, fun hHeld => nm_ ?_⟩
      refine oc_ 10 37 (bq_ 11 3) HT_ Try.func79 #[.slice A0 y392.length c0] ?_
      with_reducible refine (spec_l4Inner.calls k _ _ y392 t396 _ ?side1 ?side2 A26.out).mono ?_
      (case side1 => exact kc_ (Kd.C_below HR395.out HB.out))
      (case side2 => exact HC395.out)
      rintro e w32 ⟨rfl, hb⟩
      refine ⟨_, rfl, ?_⟩
      replace HO391 := q_ (Kd.R_below (kr_ HO391.out) hb)
      replace HB := q_ (below_step (be_ HB.out) hb)
      (try clear hb)
      (try clear hb2)
      (try clear hk)
      (try clear hi)
      refine ⟨trivial, fun hHeld => nm_ ?_⟩
      refine on_ 11 (some 38) (bq_ 12 2) HT_ (fun K hK => ?_)
      refine value_ (w1 := ?_) (v := ?_) (by rfl) rfl ?_ ?_
      rotate_left 2
      · go_simp
        constructor
        · rfl
        · rfl
      refine hK.out _ _ trivial (fun hHeld => ?_)
      clear hK K
      refine nm_ ?_
      refine on_ 12 (some 39) (bq_ 13 1) HT_ (fun K hK => ?_)
      refine Kd.R_append_step Kd.string (w0 := w) w.heap.size (by rfl) (.tmp 33) (.tmp 38) 27 9 (.string ⟨#[]⟩) 16 rfl Try.underlying27 info9 rfl (by decide) (by omega) v390 t389 t396 [.string t396] (fun _ => True) (fun _ => False) rfl rfl ?aP (fun _ hk => hk.elim) ?aF ?aO ?aB ?aS ?aL ?_
      (case aP => exact rfl)
      (case aB => exact (be_ HB.out))
      (case aF => exact (fun _ _ => trivial))
      (case aO => exact (kr_ HO391.out))
      (case aS => exact (below_size (be_ HB.out)))
      (case aL => have := LMc27.out; omega)
      intro v398 w33 ho hb hg hat
      rw [← Ny397.out] at ho
      have n0_ := q_ (hb)
      have n1_ := q_ (ho)
      clear HB
      clear HO391
      have HB := n0_
      have HO399 := n1_
      clear n0_ n1_
      clear ho hb hg hat
      refine hK.out _ _ trivial (fun hHeld => ?_)
      clear hK K
      refine nm_ ?_
      refine p_ 13 4 HT_ ?_
      refine done_ (done_of HT_.out (by kernel_rfl)) ?_
      try go_wp2
      go_ret
      exact ⟨_, rf_, by (with_reducible repeat (first | apply Kd.R_alloc | apply Kd.R_drewN | apply Kd.R_drew)); exact HO399.out, be_ HB.out⟩

/-! ###  spec_l1Int: function 37 -/
def spec_l1Int.f (s0_0 : List Int) (s0_1 : Int) (s0_2 : Int) (l1 : List Int) : Option (Int × Int × Int) := (spec_l1Below.f s0_0 s0_1 s0_2 (l1.length : Int)).bind fun bt400 => (if 0 ≤ bt400.1 then (if bt400.1 < (l1.length : Int) then (some (rd l1 bt400.1, bt400.2.1, bt400.2.2)) else (none)) else (none))
set_option maxHeartbeats 8000000 in
set_option maxRecDepth 100000 in
theorem spec_l1Int.calls (g : Nat) (s0_0 : List Int) (s0_1 : Int) (s0_2 : Int) (A1 : Option Addr) (c1 : Nat) (l1 : List Int) (r1 : Int) (r2 : Int) (r3 : Int) (w0 w : World) (hI : IsS98 w0 w g s0_0 s0_1 s0_2) (hB : Below w0.heap.size w0 w) (hr1 : Kd.C (Kd.int .i64) w A1 l1.length l1) (hc1 : l1.length ≤ c1) (hf1 : ∀ ad, A1 = some ad → 0 < l1.length → ad.block ≠ g) (h : spec_l1Int.f s0_0 s0_1 s0_2 l1 = some (r1, r2, r3)) :
  Calls Try.prog 37 #[.pointer (some ⟨g, 0, none⟩), .slice A1 l1.length c1] w fun e w' => e = .returned (.int .i64 r1) ∧ IsS98 w0 w' g s0_0 r2 r3 ∧ Below w0.heap.size w0 w' ∧ KeepBut w w' g none := by
  have HR1 := Aside0.mk hr1
  have HC1 := Aside0.mk hc1
  clear hr1 hc1
  have HI0 := Aside0.mk hI
  have HK := q_ (KeepBut.refl w g none)
  have HL := Aside0.mk hB.size
  clear hI
  have HW0 := Aside0.mk hB.size
  have HB := Aside0.mk hB
  clear hB
  have H := h
  clear h
  unfold spec_l1Int.f at H
  obtain ⟨⟨t400, t401, t402⟩, A3, H⟩ := bo_ H; try dsimp only at H
  obtain ⟨c4, H⟩ := ip_ H
  have c4b0 : decide (0 ≤ t400) = true := decide_eq_true c4
  clear c4
  obtain ⟨c5, H⟩ := ip_ H
  have c5b0 : decide (t400 < (l1.length : Int)) = true := decide_eq_true c5
  clear c5
  simp only [Option.some.injEq, Prod.mk.injEq] at H
  obtain ⟨rfl, rfl, rfl⟩ := H
  go_enter Try.func37, Try.ntmps37
  go_wp2_with (first | ((with_reducible refine gate_callee (f := 35) rfl ?_); refine gl_ (some 9) Try.func35 #[.pointer (some ⟨g, 0, none⟩), .int .i64 (l1.length : Int)] rfl al_ ?_; (with_reducible refine (spec_l1Below.calls g s0_0 s0_1 s0_2 (l1.length : Int) t400 t401 t402 w0 _ ?side1 ?side2 A3.out).mono ?_); (case side1 => repeat (first | (with_reducible first | exact HI0.out | apply IsS98.alloc | apply IsS98.drewN | apply IsS98.drew | apply IsS98.set_1 | apply IsS98.set_2) | exact HI0.out)); (case side2 => repeat (first | (with_reducible first | exact HB.out | apply below_alloc | apply pw_below_drewN | apply below_drew1 | refine below_set ?_ (IsS98.ge HI0.out)) | exact HB.out)); rintro e w6 ⟨rfl, hi, hb, hk⟩; refine ⟨_, rfl, ?_⟩; replace HK := q_ (KeepBut.trans (by repeat (first | (with_reducible first | exact HK.out | apply KeepBut.set_ | apply keep_drewN | apply keep_drew | apply keep_alloc) | exact HK.out)) hk (.inl rfl)); replace HB := q_ (hb); replace HI0 := q_ (hi); (try clear hb); (try clear hk); (try clear hi); have p403 : 0 ≤ (t400 : Int) := od_; have q403 : t400 < (l1.length : Int) := od_; obtain ⟨ad403, e403, hx403_0⟩ := Kd.at_int HR1.out t400 p403 q403; cases e403; replace hx403_0 := keep_cell HK.out hx403_0 (by first | (rw [add_block]; exact hf1 _ rfl (by omega)) | exact hf1 _ rfl (by omega) | exact hf1 ad403 rfl (by omega)); replace p403 := eq_true p403; replace q403 := eq_true q403))
  go_ret
  exact ⟨rf_, by repeat (first | (with_reducible first | exact HI0.out | apply IsS98.alloc | apply IsS98.drewN | apply IsS98.drew | apply IsS98.set_1 | apply IsS98.set_2) | exact HI0.out), bs_ HB.out (IsS98.ge HI0.out), by repeat (first | (with_reducible first | exact HK.out | apply KeepBut.set_ | apply keep_drewN | apply keep_drew | apply keep_alloc) | exact HK.out)⟩

/-! ###  spec_l1Once: function 58 -/
def spec_l1Once.f (s0_0 : List Int) (s0_1 : Int) (s0_2 : Int) (a1 : Int) : Option (Bool × Int × Int) := (spec_l1Below.f s0_0 s0_1 s0_2 a1).bind fun bt404 => (some ((bt404.1 == 0), bt404.2.1, bt404.2.2))
set_option maxHeartbeats 8000000 in
set_option maxRecDepth 100000 in
theorem spec_l1Once.calls (g : Nat) (s0_0 : List Int) (s0_1 : Int) (s0_2 : Int) (a1 : Int) (r1 : Bool) (r2 : Int) (r3 : Int) (w0 w : World) (hI : IsS98 w0 w g s0_0 s0_1 s0_2) (hB : Below w0.heap.size w0 w) (h : spec_l1Once.f s0_0 s0_1 s0_2 a1 = some (r1, r2, r3)) :
  Calls Try.prog 58 #[.pointer (some ⟨g, 0, none⟩), .int .i64 a1] w fun e w' => e = .returned (.bool r1) ∧ IsS98 w0 w' g s0_0 r2 r3 ∧ Below w0.heap.size w0 w' ∧ KeepBut w w' g none := by
  have HI0 := Aside0.mk hI
  have HK := q_ (KeepBut.refl w g none)
  have HL := Aside0.mk hB.size
  clear hI
  have HW0 := Aside0.mk hB.size
  have HB := Aside0.mk hB
  clear hB
  have H := h
  clear h
  unfold spec_l1Once.f at H
  obtain ⟨⟨t404, t405, t406⟩, A3, H⟩ := bo_ H; try dsimp only at H
  simp only [Option.some.injEq, Prod.mk.injEq] at H
  obtain ⟨rfl, rfl, rfl⟩ := H
  go_enter Try.func58, Try.ntmps58
  go_wp2_with (first | ((with_reducible refine gate_callee (f := 35) rfl ?_); refine gl_ (some 7) Try.func35 #[.pointer (some ⟨g, 0, none⟩), .int .i64 a1] rfl al_ ?_; (with_reducible refine (spec_l1Below.calls g s0_0 s0_1 s0_2 a1 t404 t405 t406 w0 _ ?side1 ?side2 A3.out).mono ?_); (case side1 => repeat (first | (with_reducible first | exact HI0.out | apply IsS98.alloc | apply IsS98.drewN | apply IsS98.drew | apply IsS98.set_1 | apply IsS98.set_2) | exact HI0.out)); (case side2 => repeat (first | (with_reducible first | exact HB.out | apply below_alloc | apply pw_below_drewN | apply below_drew1 | refine below_set ?_ (IsS98.ge HI0.out)) | exact HB.out)); rintro e w4 ⟨rfl, hi, hb, hk⟩; refine ⟨_, rfl, ?_⟩; replace HK := q_ (KeepBut.trans (by repeat (first | (with_reducible first | exact HK.out | apply KeepBut.set_ | apply keep_drewN | apply keep_drew | apply keep_alloc) | exact HK.out)) hk (.inl rfl)); replace HB := q_ (hb); replace HI0 := q_ (hi); (try clear hb); (try clear hk); (try clear hi)))
  go_ret
  exact ⟨rf_, by repeat (first | (with_reducible first | exact HI0.out | apply IsS98.alloc | apply IsS98.drewN | apply IsS98.drew | apply IsS98.set_1 | apply IsS98.set_2) | exact HI0.out), bs_ HB.out (IsS98.ge HI0.out), by repeat (first | (with_reducible first | exact HK.out | apply KeepBut.set_ | apply keep_drewN | apply keep_drew | apply keep_alloc) | exact HK.out)⟩

/-! ###  spec_l3KeyAny: function 80 -/
def spec_l3KeyAny.f (s0_0 : List Int) (s0_1 : Int) (s0_2 : Int) : Option (ByteArray × Int × Int) := (spec_l1Once.f s0_0 s0_1 s0_2 6).bind fun bt407 => (if bt407.1 = true then ((spec_l1Str.f s0_0 bt407.2.1 bt407.2.2 (([(⟨#[]⟩ : ByteArray), (⟨#[65]⟩ : ByteArray), (⟨#[97, 32, 98]⟩ : ByteArray), (⟨#[116, 104, 105, 114, 116, 101, 101, 110, 98, 121, 116, 101, 115]⟩ : ByteArray), (⟨#[116, 119, 101, 108, 118, 101, 98, 121, 116, 101, 115, 49]⟩ : ByteArray)] : List ByteArray))).bind fun bt413 => (some (bt413.1, bt413.2.1, bt413.2.2))) else ((spec_l3Key.f s0_0 bt407.2.1 bt407.2.2).bind fun bt416 => (some (bt416.1, bt416.2.1, bt416.2.2))))
set_option maxHeartbeats 8000000 in
set_option maxRecDepth 100000 in
theorem spec_l3KeyAny.calls (g : Nat) (s0_0 : List Int) (s0_1 : Int) (s0_2 : Int) (r1 : ByteArray) (r2 : Int) (r3 : Int) (w0 w : World) (hI : IsS98 w0 w g s0_0 s0_1 s0_2) (hB : Below w0.heap.size w0 w) (h : spec_l3KeyAny.f s0_0 s0_1 s0_2 = some (r1, r2, r3)) :
  Calls Try.prog 80 #[.pointer (some ⟨g, 0, none⟩)] w fun e w' => e = .returned (.string r1) ∧ IsS98 w0 w' g s0_0 r2 r3 ∧ Below w0.heap.size w0 w' ∧ KeepBut w w' g none := by
  have HI0 := Aside0.mk hI
  have HK := q_ (KeepBut.refl w g none)
  have HL := Aside0.mk hB.size
  clear hI
  have HW0 := Aside0.mk hB.size
  have HB := Aside0.mk hB
  clear hB
  have H := h
  clear h
  unfold spec_l3KeyAny.f at H
  obtain ⟨⟨t407, t408, t409⟩, A2, H⟩ := bo_ H; try dsimp only at H
  by_cases c3 : t407 = true
  · subst c3
    rw [if_pos rfl] at H
    obtain ⟨y410, hy410⟩ : ∃ y_ : List ByteArray, y_ = (([(⟨#[]⟩ : ByteArray), (⟨#[65]⟩ : ByteArray), (⟨#[97, 32, 98]⟩ : ByteArray), (⟨#[116, 104, 105, 114, 116, 101, 101, 110, 98, 121, 116, 101, 115]⟩ : ByteArray), (⟨#[116, 119, 101, 108, 118, 101, 98, 121, 116, 101, 115, 49]⟩ : ByteArray)] : List ByteArray)) := ⟨_, rfl⟩
    replace H : ((spec_l1Str.f s0_0 t408 t409 y410).bind fun bt413 => (some (bt413.1, bt413.2.1, bt413.2.2))) = some (r1, r2, r3) := ry_ hy410 H
    have Ny410 := Aside0.mk hy410
    clear hy410
    obtain ⟨⟨t413, t414, t415⟩, A4, H⟩ := bo_ H; try dsimp only at H
    simp only [Option.some.injEq, Prod.mk.injEq] at H
    obtain ⟨rfl, rfl, rfl⟩ := H
    go_enter Try.func80, Try.ntmps80
    go_wp2_with (first | ((with_reducible refine gate_callee (f := 58) rfl ?_); refine gl_ (some 4) Try.func58 #[.pointer (some ⟨g, 0, none⟩), .int .i64 6] rfl al_ ?_; (with_reducible refine (spec_l1Once.calls g s0_0 s0_1 s0_2 6 true t408 t409 w0 _ ?side1 ?side2 A2.out).mono ?_); (case side1 => repeat (first | (with_reducible first | exact HI0.out | apply IsS98.alloc | apply IsS98.drewN | apply IsS98.drew | apply IsS98.set_1 | apply IsS98.set_2) | exact HI0.out)); (case side2 => repeat (first | (with_reducible first | exact HB.out | apply below_alloc | apply pw_below_drewN | apply below_drew1 | refine below_set ?_ (IsS98.ge HI0.out)) | exact HB.out)); rintro e w5 ⟨rfl, hi, hb, hk⟩; refine ⟨_, rfl, ?_⟩; replace HK := q_ (KeepBut.trans (by repeat (first | (with_reducible first | exact HK.out | apply KeepBut.set_ | apply keep_drewN | apply keep_drew | apply keep_alloc) | exact HK.out)) hk (.inl rfl)); replace HB := q_ (hb); replace HI0 := q_ (hi); (try clear hb); (try clear hk); (try clear hi)) | ((with_reducible refine gate_dst (N := 6) rfl ?_); refine Kd.R_lit Kd.string _ 9 ?hg (N := 6) ?hd (xs := ([(⟨#[]⟩ : ByteArray), (⟨#[65]⟩ : ByteArray), (⟨#[97, 32, 98]⟩ : ByteArray), (⟨#[116, 104, 105, 114, 116, 101, 101, 110, 98, 121, 116, 101, 115]⟩ : ByteArray), (⟨#[116, 119, 101, 108, 118, 101, 98, 121, 116, 101, 115, 49]⟩ : ByteArray)] : List ByteArray)) (inner := [.string (⟨#[]⟩ : ByteArray), .string (⟨#[65]⟩ : ByteArray), .string (⟨#[97, 32, 98]⟩ : ByteArray), .string (⟨#[116, 104, 105, 114, 116, 101, 101, 110, 98, 121, 116, 101, 115]⟩ : ByteArray), .string (⟨#[116, 119, 101, 108, 118, 101, 98, 121, 116, 101, 115, 49]⟩ : ByteArray)]) (ok := fun _ => True) (okp := fun _ => True) ?hr ?hp (fun _ hk => hk) trivial (Below.refl _ _) (Nat.le_refl _) (by simp) ?_; (case hd => rfl); (case hg => rfl); (case hr => first | (go_simp; done) | (go_simp; rfl)); (case hp => exact (Reps.one (show Kd.M Kd.string _ _ _ (⟨#[]⟩ : ByteArray) [.string (⟨#[]⟩ : ByteArray)] from rfl) (Reps.one (show Kd.M Kd.string _ _ _ (⟨#[65]⟩ : ByteArray) [.string (⟨#[65]⟩ : ByteArray)] from rfl) (Reps.one (show Kd.M Kd.string _ _ _ (⟨#[97, 32, 98]⟩ : ByteArray) [.string (⟨#[97, 32, 98]⟩ : ByteArray)] from rfl) (Reps.one (show Kd.M Kd.string _ _ _ (⟨#[116, 104, 105, 114, 116, 101, 101, 110, 98, 121, 116, 101, 115]⟩ : ByteArray) [.string (⟨#[116, 104, 105, 114, 116, 101, 101, 110, 98, 121, 116, 101, 115]⟩ : ByteArray)] from rfl) (Reps.one (show Kd.M Kd.string _ _ _ (⟨#[116, 119, 101, 108, 118, 101, 98, 121, 116, 101, 115, 49]⟩ : ByteArray) [.string (⟨#[116, 119, 101, 108, 118, 101, 98, 121, 116, 101, 115, 49]⟩ : ByteArray)] from rfl) (Reps.none _ _))))))); intro v411 w6 ho7 hb hg_ hnew_; clear hg_ hnew_; (first | rw [← Ny410.out] at ho7 | (simp only [Int.reduceToNat] at ho7; rw [← Ny410.out] at ho7)); have HO412 := q_ (Kd.R_lower ho7 (keep_size (w := w) (g := g) (row := none) (by repeat (first | (with_reducible first | exact HK.out | apply KeepBut.set_ | apply keep_drewN | apply keep_drew | apply keep_alloc) | exact HK.out)))); replace HK := q_ (KeepBut.trans (by repeat (first | (with_reducible first | exact HK.out | apply KeepBut.set_ | apply keep_drewN | apply keep_drew | apply keep_alloc) | exact HK.out)) (KeepBut.of_below hb g none) (.inl rfl)); replace HB := q_ (below_step (bs_ HB.out (IsS98.ge HI0.out)) hb); replace HI0 := q_ (IsS98.below (by repeat (first | (with_reducible first | exact HI0.out | apply IsS98.alloc | apply IsS98.drewN | apply IsS98.drew | apply IsS98.set_1 | apply IsS98.set_2) | exact HI0.out)) hb); clear hb ho7; obtain ⟨Ao8, co8, eo8⟩ := Kd.R_slice HO412.out; subst eo8) | ((with_reducible refine gate_callee (f := 76) rfl ?_); refine gl_ (some 7) Try.func76 #[.pointer (some ⟨g, 0, none⟩), .slice Ao8 y410.length co8] rfl al_ ?_; (with_reducible refine (spec_l1Str.calls g s0_0 t408 t409 _ _ y410 t413 t414 t415 w0 _ ?side1 ?side2 ?side3 ?side4 ?side5 A4.out).mono ?_); (case side1 => repeat (first | (with_reducible first | exact HI0.out | apply IsS98.alloc | apply IsS98.drewN | apply IsS98.drew | apply IsS98.set_1 | apply IsS98.set_2) | exact HI0.out)); (case side2 => repeat (first | (with_reducible first | exact HB.out | apply below_alloc | apply pw_below_drewN | apply below_drew1 | refine below_set ?_ (IsS98.ge HI0.out)) | exact HB.out)); (case side3 => exact kc_ (Kd.R_reads' HO412.out).2.2); (case side4 => exact (Kd.R_reads' HO412.out).2.1); (case side5 => exact far_slice (IsS98.own_ne HI0.out HO412.out (by decide))); rintro e w9 ⟨rfl, hi, hb, hk⟩; refine ⟨_, rfl, ?_⟩; replace HO412 := q_ (Kd.R_mono (Kd.R_keep (IsS98.apart (show IsS98 w0 _ g s0_0 t408 t409 from by repeat (first | (with_reducible first | exact HI0.out | apply IsS98.alloc | apply IsS98.drewN | apply IsS98.drew | apply IsS98.set_1 | apply IsS98.set_2) | exact HI0.out)) (kr_ HO412.out) (by decide)) hk (fun _ h => h.2)) (fun _ h => h.1)); replace HK := q_ (KeepBut.trans (by repeat (first | (with_reducible first | exact HK.out | apply KeepBut.set_ | apply keep_drewN | apply keep_drew | apply keep_alloc) | exact HK.out)) hk (.inl rfl)); replace HB := q_ (hb); replace HI0 := q_ (hi); (try clear hb); (try clear hk); (try clear hi)))
    go_ret
    exact ⟨rf_, by repeat (first | (with_reducible first | exact HI0.out | apply IsS98.alloc | apply IsS98.drewN | apply IsS98.drew | apply IsS98.set_1 | apply IsS98.set_2) | exact HI0.out), bs_ HB.out (IsS98.ge HI0.out), by repeat (first | (with_reducible first | exact HK.out | apply KeepBut.set_ | apply keep_drewN | apply keep_drew | apply keep_alloc) | exact HK.out)⟩
  · replace c3 := Bool.eq_false_iff.mpr c3
    subst c3
    rw [if_neg (show ¬ (false = true) by decide)] at H
    obtain ⟨⟨t416, t417, t418⟩, A10, H⟩ := bo_ H; try dsimp only at H
    simp only [Option.some.injEq, Prod.mk.injEq] at H
    obtain ⟨rfl, rfl, rfl⟩ := H
    go_enter Try.func80, Try.ntmps80
    go_wp2_with (first | ((with_reducible refine gate_callee (f := 58) rfl ?_); refine gl_ (some 4) Try.func58 #[.pointer (some ⟨g, 0, none⟩), .int .i64 6] rfl al_ ?_; (with_reducible refine (spec_l1Once.calls g s0_0 s0_1 s0_2 6 false t408 t409 w0 _ ?side1 ?side2 A2.out).mono ?_); (case side1 => repeat (first | (with_reducible first | exact HI0.out | apply IsS98.alloc | apply IsS98.drewN | apply IsS98.drew | apply IsS98.set_1 | apply IsS98.set_2) | exact HI0.out)); (case side2 => repeat (first | (with_reducible first | exact HB.out | apply below_alloc | apply pw_below_drewN | apply below_drew1 | refine below_set ?_ (IsS98.ge HI0.out)) | exact HB.out)); rintro e w11 ⟨rfl, hi, hb, hk⟩; refine ⟨_, rfl, ?_⟩; replace HK := q_ (KeepBut.trans (by repeat (first | (with_reducible first | exact HK.out | apply KeepBut.set_ | apply keep_drewN | apply keep_drew | apply keep_alloc) | exact HK.out)) hk (.inl rfl)); replace HB := q_ (hb); replace HI0 := q_ (hi); (try clear hb); (try clear hk); (try clear hi)) | ((with_reducible refine gate_callee (f := 75) rfl ?_); refine gl_ (some 9) Try.func75 #[.pointer (some ⟨g, 0, none⟩)] rfl al_ ?_; (with_reducible refine (spec_l3Key.calls g s0_0 t408 t409 t416 t417 t418 w0 _ ?side1 ?side2 A10.out).mono ?_); (case side1 => repeat (first | (with_reducible first | exact HI0.out | apply IsS98.alloc | apply IsS98.drewN | apply IsS98.drew | apply IsS98.set_1 | apply IsS98.set_2) | exact HI0.out)); (case side2 => repeat (first | (with_reducible first | exact HB.out | apply below_alloc | apply pw_below_drewN | apply below_drew1 | refine below_set ?_ (IsS98.ge HI0.out)) | exact HB.out)); rintro e w12 ⟨rfl, hi, hb, hk⟩; refine ⟨_, rfl, ?_⟩; replace HK := q_ (KeepBut.trans (by repeat (first | (with_reducible first | exact HK.out | apply KeepBut.set_ | apply keep_drewN | apply keep_drew | apply keep_alloc) | exact HK.out)) hk (.inl rfl)); replace HB := q_ (hb); replace HI0 := q_ (hi); (try clear hb); (try clear hk); (try clear hi)))
    go_ret
    exact ⟨rf_, by repeat (first | (with_reducible first | exact HI0.out | apply IsS98.alloc | apply IsS98.drewN | apply IsS98.drew | apply IsS98.set_1 | apply IsS98.set_2) | exact HI0.out), bs_ HB.out (IsS98.ge HI0.out), by repeat (first | (with_reducible first | exact HK.out | apply KeepBut.set_ | apply keep_drewN | apply keep_drew | apply keep_alloc) | exact HK.out)⟩

/-! ###  spec_l3Any: function 38 -/
def spec_l3Any.f (k : Nat) (s0_0 : List Int) (s0_1 : Int) (s0_2 : Int) : Option ((List (S26)) × Int × Int) := (spec_l3Draw.f k s0_0 s0_1 s0_2).bind fun bt419 => ((spec_l1Below.f s0_0 bt419.2.1 bt419.2.2 8).bind fun bt424 => (if bt424.1 = 0 then ((spec_l3KeyAny.f s0_0 bt424.2.1 bt424.2.2).bind fun bt427 => ((spec_l3Val.f s0_0 bt427.2.1 bt427.2.2).bind fun bt430 => (if bt419.1.length < 4398046511104 then (some ((bt419.1 ++ [(⟨bt427.1, bt430.1⟩ : S26)]), bt430.2.1, bt430.2.2)) else (none)))) else (if bt424.1 = 1 then (if (bt419.1.length : Int) > 0 then ((spec_l1Below.f s0_0 bt424.2.1 bt424.2.2 2).bind fun bt436 => (if 0 ≤ (wrap64 (20 + bt436.1)) then (if (wrap64 (20 + bt436.1) : Int).toNat ≤ 281474976710656 then (if 0 < (bt419.1.length : Int) then (some ((bt419.1.set (0 : Int).toNat (⟨(rd_T26 bt419.1 0).f0, strOfNums (List.replicate (wrap64 (20 + bt436.1) : Int).toNat 0)⟩ : S26)), bt436.2.1, bt436.2.2)) else (none)) else (none)) else (none))) else (some (bt419.1, bt424.2.1, bt424.2.2))) else (some (bt419.1, bt424.2.1, bt424.2.2)))))
set_option maxHeartbeats 8000000 in
set_option maxRecDepth 100000 in
theorem spec_l3Any.calls (k : Nat) (g : Nat) (s0_0 : List Int) (s0_1 : Int) (s0_2 : Int) (r1 : List (S26)) (r2 : Int) (r3 : Int) (w0 w : World) (hI : IsS98 w0 w g s0_0 s0_1 s0_2) (hB : Below w0.heap.size w0 w) (h : spec_l3Any.f k s0_0 s0_1 s0_2 = some (r1, r2, r3)) :
  Calls Try.prog 38 #[.pointer (some ⟨g, 0, none⟩)] w fun e w' => ∃ v0_ : Value, e = .returned (v0_) ∧ Kd.R k26 26 w' w.heap.size (fun _ => True) v0_ r1 ∧ IsS98 w0 w' g s0_0 r2 r3 ∧ Below w0.heap.size w0 w' ∧ KeepBut w w' g none := by
  have hu26 := Try.underlying26
  have HI0 := Aside0.mk hI
  have HK := q_ (KeepBut.refl w g none)
  have HL := Aside0.mk hB.size
  clear hI
  have HW0 := Aside0.mk hB.size
  have HB := Aside0.mk hB
  clear hB
  have H := h
  clear h
  unfold spec_l3Any.f at H
  obtain ⟨⟨t419, t422, t423⟩, A2, H⟩ := bo_ H; try dsimp only at H
  obtain ⟨⟨t424, t425, t426⟩, A3, H⟩ := bo_ H; try dsimp only at H
  by_cases c4 : t424 = 0
  · rw [if_pos c4] at H
    have c4b0 := beq_iff_eq.mpr c4
    have c4b1 := bne_eq_false_iff_eq.mpr c4
    clear c4
    obtain ⟨⟨t427, t428, t429⟩, A5, H⟩ := bo_ H; try dsimp only at H
    obtain ⟨⟨t430, t431, t432⟩, A6, H⟩ := bo_ H; try dsimp only at H
    obtain ⟨c7, H⟩ := ip_ H
    have LMc7 := Aside0.mk c7
    clear c7
    obtain ⟨y433, hy433⟩ : ∃ y_ : List (S26), y_ = (t419 ++ [(⟨t427, t430⟩ : S26)]) := ⟨_, rfl⟩
    replace H : (some (y433, t431, t432)) = some (r1, r2, r3) := ry_ hy433 H
    have Ny433 := Aside0.mk hy433
    clear hy433
    simp only [Option.some.injEq, Prod.mk.injEq] at H
    obtain ⟨rfl, rfl, rfl⟩ := H
    go_enter Try.func38, Try.ntmps38
    go_wp2_with (first | ((with_reducible refine gate_callee (f := 33) rfl ?_); refine gl_ (some 5) Try.func33 #[.pointer (some ⟨g, 0, none⟩)] rfl al_ ?_; (with_reducible refine (spec_l3Draw.calls k g s0_0 s0_1 s0_2 t419 t422 t423 w0 _ ?side1 ?side2 A2.out).mono ?_); (case side1 => repeat (first | (with_reducible first | exact HI0.out | apply IsS98.alloc | apply IsS98.drewN | apply IsS98.drew | apply IsS98.set_1 | apply IsS98.set_2) | exact HI0.out)); (case side2 => repeat (first | (with_reducible first | exact HB.out | apply below_alloc | apply pw_below_drewN | apply below_drew1 | refine below_set ?_ (IsS98.ge HI0.out)) | exact HB.out)); rintro e w8 ⟨v420, rfl, ho0, hi, hb, hk⟩; refine ⟨_, rfl, ?_⟩; have HO421 := q_ (Kd.R_lower ho0 (keep_size (w := w) (g := g) (row := none) (by repeat (first | (with_reducible first | exact HK.out | apply KeepBut.set_ | apply keep_drewN | apply keep_drew | apply keep_alloc) | exact HK.out)))); replace HK := q_ (KeepBut.trans (by repeat (first | (with_reducible first | exact HK.out | apply KeepBut.set_ | apply keep_drewN | apply keep_drew | apply keep_alloc) | exact HK.out)) hk (.inl rfl)); replace HB := q_ (hb); replace HI0 := q_ (hi); (try clear hb); (try clear hk); (try clear hi); (try clear ho0)) | ((with_reducible refine gate_callee (f := 35) rfl ?_); refine gl_ (some 7) Try.func35 #[.pointer (some ⟨g, 0, none⟩), .int .i64 8] rfl al_ ?_; (with_reducible refine (spec_l1Below.calls g s0_0 t422 t423 8 t424 t425 t426 w0 _ ?side1 ?side2 A3.out).mono ?_); (case side1 => repeat (first | (with_reducible first | exact HI0.out | apply IsS98.alloc | apply IsS98.drewN | apply IsS98.drew | apply IsS98.set_1 | apply IsS98.set_2) | exact HI0.out)); (case side2 => repeat (first | (with_reducible first | exact HB.out | apply below_alloc | apply pw_below_drewN | apply below_drew1 | refine below_set ?_ (IsS98.ge HI0.out)) | exact HB.out)); rintro e w9 ⟨rfl, hi, hb, hk⟩; refine ⟨_, rfl, ?_⟩; replace HO421 := q_ (Kd.R_mono (Kd.R_keep (IsS98.apart (show IsS98 w0 _ g s0_0 t422 t423 from by repeat (first | (with_reducible first | exact HI0.out | apply IsS98.alloc | apply IsS98.drewN | apply IsS98.drew | apply IsS98.set_1 | apply IsS98.set_2) | exact HI0.out)) (kr_ HO421.out) (by decide)) hk (fun _ h => h.2)) (fun _ h => h.1)); replace HK := q_ (KeepBut.trans (by repeat (first | (with_reducible first | exact HK.out | apply KeepBut.set_ | apply keep_drewN | apply keep_drew | apply keep_alloc) | exact HK.out)) hk (.inl rfl)); replace HB := q_ (hb); replace HI0 := q_ (hi); (try clear hb); (try clear hk); (try clear hi)) | ((with_reducible refine gate_callee (f := 80) rfl ?_); refine gl_ (some 12) Try.func80 #[.pointer (some ⟨g, 0, none⟩)] rfl al_ ?_; (with_reducible refine (spec_l3KeyAny.calls g s0_0 t425 t426 t427 t428 t429 w0 _ ?side1 ?side2 A5.out).mono ?_); (case side1 => repeat (first | (with_reducible first | exact HI0.out | apply IsS98.alloc | apply IsS98.drewN | apply IsS98.drew | apply IsS98.set_1 | apply IsS98.set_2) | exact HI0.out)); (case side2 => repeat (first | (with_reducible first | exact HB.out | apply below_alloc | apply pw_below_drewN | apply below_drew1 | refine below_set ?_ (IsS98.ge HI0.out)) | exact HB.out)); rintro e w10 ⟨rfl, hi, hb, hk⟩; refine ⟨_, rfl, ?_⟩; replace HO421 := q_ (Kd.R_mono (Kd.R_keep (IsS98.apart (show IsS98 w0 _ g s0_0 t425 t426 from by repeat (first | (with_reducible first | exact HI0.out | apply IsS98.alloc | apply IsS98.drewN | apply IsS98.drew | apply IsS98.set_1 | apply IsS98.set_2) | exact HI0.out)) (kr_ HO421.out) (by decide)) hk (fun _ h => h.2)) (fun _ h => h.1)); replace HK := q_ (KeepBut.trans (by repeat (first | (with_reducible first | exact HK.out | apply KeepBut.set_ | apply keep_drewN | apply keep_drew | apply keep_alloc) | exact HK.out)) hk (.inl rfl)); replace HB := q_ (hb); replace HI0 := q_ (hi); (try clear hb); (try clear hk); (try clear hi)) | ((with_reducible refine gate_callee (f := 34) rfl ?_); refine gl_ (some 14) Try.func34 #[.pointer (some ⟨g, 0, none⟩)] rfl al_ ?_; (with_reducible refine (spec_l3Val.calls g s0_0 t428 t429 t430 t431 t432 w0 _ ?side1 ?side2 A6.out).mono ?_); (case side1 => repeat (first | (with_reducible first | exact HI0.out | apply IsS98.alloc | apply IsS98.drewN | apply IsS98.drew | apply IsS98.set_1 | apply IsS98.set_2) | exact HI0.out)); (case side2 => repeat (first | (with_reducible first | exact HB.out | apply below_alloc | apply pw_below_drewN | apply below_drew1 | refine below_set ?_ (IsS98.ge HI0.out)) | exact HB.out)); rintro e w11 ⟨rfl, hi, hb, hk⟩; refine ⟨_, rfl, ?_⟩; replace HO421 := q_ (Kd.R_mono (Kd.R_keep (IsS98.apart (show IsS98 w0 _ g s0_0 t428 t429 from by repeat (first | (with_reducible first | exact HI0.out | apply IsS98.alloc | apply IsS98.drewN | apply IsS98.drew | apply IsS98.set_1 | apply IsS98.set_2) | exact HI0.out)) (kr_ HO421.out) (by decide)) hk (fun _ h => h.2)) (fun _ h => h.1)); replace HK := q_ (KeepBut.trans (by repeat (first | (with_reducible first | exact HK.out | apply KeepBut.set_ | apply keep_drewN | apply keep_drew | apply keep_alloc) | exact HK.out)) hk (.inl rfl)); replace HB := q_ (hb); replace HI0 := q_ (hi); (try clear hb); (try clear hk); (try clear hi)) | ((with_reducible refine gate_builtin (b := .append) (xs := #[.tmp 10, .tmp 16]) rfl ?_); at_builtin; refine Kd.R_append k26 w.heap.size rfl (.tmp 10) (.tmp 16) 24 26 (.agg #[(.string ⟨#[]⟩), (.string ⟨#[]⟩)]) 32 rfl Try.underlying24 info26 rfl (by decide) (by omega) v420 t419 (⟨t427, t430⟩ : S26) [.string t427, .string t430] (fun _ => True) (fun _ => False) rfl rfl ?aP (fun _ hk => hk.elim) ?aF ?aO (Below.refl _ _) ?aS ?aL ?_; (case aP => exact k26_mkM _ _ _ (⟨t427, t430⟩ : S26)); (case aF => exact (fun _ _ => trivial)); (case aO => exact (kr_ HO421.out)); (case aS => exact (keep_size (w := w) (g := g) (row := none) (by repeat (first | (with_reducible first | exact HK.out | apply KeepBut.set_ | apply keep_drewN | apply keep_drew | apply keep_alloc) | exact HK.out)))); (case aL => have := LMc7.out; omega); intro v434 w12 ho hb hg hat; rw [← Ny433.out] at ho; have n0_ := q_ (IsS98.grown (by repeat (first | (with_reducible first | exact HI0.out | apply IsS98.alloc | apply IsS98.drewN | apply IsS98.drew | apply IsS98.set_1 | apply IsS98.set_2) | exact HI0.out)) hg (IsS98.own_ne HI0.out HO421.out (by decide))); have n1_ := q_ (below_weaken (bs_ HB.out (IsS98.ge HI0.out)) HL.out hb); have n2_ := q_ (KeepBut.trans (by repeat (first | (with_reducible first | exact HK.out | apply KeepBut.set_ | apply keep_drewN | apply keep_drew | apply keep_alloc) | exact HK.out)) (KeepBut.of_grown hg g) (Kd.R_base2 HO421.out)); have n3_ := q_ (ho); clear HI0; clear HB; clear HK; clear HO421; have HI0 := n0_; have HB := n1_; have HK := n2_; have HO435 := n3_; clear n0_ n1_ n2_ n3_; clear ho hb hg hat))
    go_ret
    exact ⟨_, rf_, by (with_reducible repeat (first | apply Kd.R_alloc | apply Kd.R_drewN | apply Kd.R_drew)); exact HO435.out, by repeat (first | (with_reducible first | exact HI0.out | apply IsS98.alloc | apply IsS98.drewN | apply IsS98.drew | apply IsS98.set_1 | apply IsS98.set_2) | exact HI0.out), bs_ HB.out (IsS98.ge HI0.out), by repeat (first | (with_reducible first | exact HK.out | apply KeepBut.set_ | apply keep_drewN | apply keep_drew | apply keep_alloc) | exact HK.out)⟩
  · rw [if_neg c4] at H
    have c4b0 := beq_eq_false_iff_ne.mpr c4
    have c4b1 := bne_iff_ne.mpr c4
    by_cases c13 : t424 = 1
    · rw [if_pos c13] at H
      have c13b0 := beq_iff_eq.mpr c13
      have c13b1 := bne_eq_false_iff_eq.mpr c13
      clear c13
      by_cases c14 : (t419.length : Int) > 0
      rotate_left
      · rw [if_neg c14] at H
        have c14b0 : decide (0 < (t419.length : Int)) = false := decide_eq_false c14
        have c14b1 : decide (0 < t419.length) = false := decide_eq_false (by omega)
        clear c14
        simp only [Option.some.injEq, Prod.mk.injEq] at H
        obtain ⟨rfl, rfl, rfl⟩ := H
        go_enter Try.func38, Try.ntmps38
        go_wp2_with (first | ((with_reducible refine gate_callee (f := 33) rfl ?_); refine gl_ (some 5) Try.func33 #[.pointer (some ⟨g, 0, none⟩)] rfl al_ ?_; (with_reducible refine (spec_l3Draw.calls k g s0_0 s0_1 s0_2 t419 t422 t423 w0 _ ?side1 ?side2 A2.out).mono ?_); (case side1 => repeat (first | (with_reducible first | exact HI0.out | apply IsS98.alloc | apply IsS98.drewN | apply IsS98.drew | apply IsS98.set_1 | apply IsS98.set_2) | exact HI0.out)); (case side2 => repeat (first | (with_reducible first | exact HB.out | apply below_alloc | apply pw_below_drewN | apply below_drew1 | refine below_set ?_ (IsS98.ge HI0.out)) | exact HB.out)); rintro e w30 ⟨v420, rfl, ho0, hi, hb, hk⟩; refine ⟨_, rfl, ?_⟩; have HO421 := q_ (Kd.R_lower ho0 (keep_size (w := w) (g := g) (row := none) (by repeat (first | (with_reducible first | exact HK.out | apply KeepBut.set_ | apply keep_drewN | apply keep_drew | apply keep_alloc) | exact HK.out)))); replace HK := q_ (KeepBut.trans (by repeat (first | (with_reducible first | exact HK.out | apply KeepBut.set_ | apply keep_drewN | apply keep_drew | apply keep_alloc) | exact HK.out)) hk (.inl rfl)); replace HB := q_ (hb); replace HI0 := q_ (hi); (try clear hb); (try clear hk); (try clear hi); (try clear ho0)) | ((with_reducible refine gate_callee (f := 35) rfl ?_); refine gl_ (some 7) Try.func35 #[.pointer (some ⟨g, 0, none⟩), .int .i64 8] rfl al_ ?_; (with_reducible refine (spec_l1Below.calls g s0_0 t422 t423 8 t424 t425 t426 w0 _ ?side1 ?side2 A3.out).mono ?_); (case side1 => repeat (first | (with_reducible first | exact HI0.out | apply IsS98.alloc | apply IsS98.drewN | apply IsS98.drew | apply IsS98.set_1 | apply IsS98.set_2) | exact HI0.out)); (case side2 => repeat (first | (with_reducible first | exact HB.out | apply below_alloc | apply pw_below_drewN | apply below_drew1 | refine below_set ?_ (IsS98.ge HI0.out)) | exact HB.out)); rintro e w31 ⟨rfl, hi, hb, hk⟩; refine ⟨_, rfl, ?_⟩; replace HO421 := q_ (Kd.R_mono (Kd.R_keep (IsS98.apart (show IsS98 w0 _ g s0_0 t422 t423 from by repeat (first | (with_reducible first | exact HI0.out | apply IsS98.alloc | apply IsS98.drewN | apply IsS98.drew | apply IsS98.set_1 | apply IsS98.set_2) | exact HI0.out)) (kr_ HO421.out) (by decide)) hk (fun _ h => h.2)) (fun _ h => h.1)); replace HK := q_ (KeepBut.trans (by repeat (first | (with_reducible first | exact HK.out | apply KeepBut.set_ | apply keep_drewN | apply keep_drew | apply keep_alloc) | exact HK.out)) hk (.inl rfl)); replace HB := q_ (hb); replace HI0 := q_ (hi); (try clear hb); (try clear hk); (try clear hi); obtain ⟨Ao32, co32, eo32⟩ := Kd.R_slice HO421.out; subst eo32))
        go_ret
        exact ⟨_, rf_, by (with_reducible repeat (first | apply Kd.R_alloc | apply Kd.R_drewN | apply Kd.R_drew)); exact HO421.out, by repeat (first | (with_reducible first | exact HI0.out | apply IsS98.alloc | apply IsS98.drewN | apply IsS98.drew | apply IsS98.set_1 | apply IsS98.set_2) | exact HI0.out), bs_ HB.out (IsS98.ge HI0.out), by repeat (first | (with_reducible first | exact HK.out | apply KeepBut.set_ | apply keep_drewN | apply keep_drew | apply keep_alloc) | exact HK.out)⟩
      rw [if_pos c14] at H
      have c14b0 : decide (0 < (t419.length : Int)) = true := decide_eq_true c14
      have c14b1 : decide (0 < t419.length) = true := decide_eq_true (by omega)
      clear c14
      obtain ⟨⟨t436, t437, t438⟩, A15, H⟩ := bo_ H; try dsimp only at H
      obtain ⟨ji16, hji16⟩ : ∃ j_ : Int, (wrap64 (20 + t436)) = j_ := ⟨_, rfl⟩
      replace H : (if 0 ≤ (ji16) then (if (ji16 : Int).toNat ≤ 281474976710656 then (if 0 < (t419.length : Int) then (some ((t419.set (0 : Int).toNat (⟨(rd_T26 t419 0).f0, strOfNums (List.replicate (ji16 : Int).toNat 0)⟩ : S26)), t437, t438)) else (none)) else (none)) else (none)) = some (r1, r2, r3) := by first | (rw [hji16] at H; exact H) | (simp only [hji16] at H ⊢; exact H)
      (try rw [hji16] at A2)
      (try rw [hji16] at A3)
      (try rw [hji16] at A15)
      have hji16w : (IntKind.i64.wrap (20 + t436)) = ji16 := (i64_w _).trans hji16
      obtain ⟨c17, H⟩ := ip_ H
      have c17b0 := eq_true c17
      have c17b1 : decide (0 ≤ (ji16)) = true := decide_eq_true c17
      clear c17
      obtain ⟨c18, H⟩ := ip_ H
      have c18b0 := eq_true c18
      have c18b1 : decide ((ji16 : Int).toNat ≤ 281474976710656) = true := decide_eq_true c18
      clear c18
      obtain ⟨y439, hy439⟩ : ∃ y_ : List Int, y_ = (List.replicate (ji16 : Int).toNat 0) := ⟨_, rfl⟩
      replace H : (if 0 < (t419.length : Int) then (some ((t419.set (0 : Int).toNat (⟨(rd_T26 t419 0).f0, strOfNums y439⟩ : S26)), t437, t438)) else (none)) = some (r1, r2, r3) := ry_ hy439 H
      have Ny439 := Aside0.mk hy439
      clear hy439
      obtain ⟨c19, H⟩ := ip_ H
      have c19b0 : decide (0 < (t419.length : Int)) = true := decide_eq_true c19
      have c19b1 : decide (0 < t419.length) = true := decide_eq_true (by omega)
      clear c19
      obtain ⟨y442, hy442⟩ : ∃ y_ : List (S26), y_ = (t419.set (0 : Int).toNat (⟨(rd_T26 t419 0).f0, strOfNums y439⟩ : S26)) := ⟨_, rfl⟩
      replace H : (some (y442, t437, t438)) = some (r1, r2, r3) := ry_ hy442 H
      have Ny442 := Aside0.mk hy442
      clear hy442
      simp only [Option.some.injEq, Prod.mk.injEq] at H
      obtain ⟨rfl, rfl, rfl⟩ := H
      go_enter Try.func38, Try.ntmps38
      go_wp2_with (first | ((with_reducible refine gate_callee (f := 33) rfl ?_); refine gl_ (some 5) Try.func33 #[.pointer (some ⟨g, 0, none⟩)] rfl al_ ?_; (with_reducible refine (spec_l3Draw.calls k g s0_0 s0_1 s0_2 t419 t422 t423 w0 _ ?side1 ?side2 A2.out).mono ?_); (case side1 => repeat (first | (with_reducible first | exact HI0.out | apply IsS98.alloc | apply IsS98.drewN | apply IsS98.drew | apply IsS98.set_1 | apply IsS98.set_2) | exact HI0.out)); (case side2 => repeat (first | (with_reducible first | exact HB.out | apply below_alloc | apply pw_below_drewN | apply below_drew1 | refine below_set ?_ (IsS98.ge HI0.out)) | exact HB.out)); rintro e w21 ⟨v420, rfl, ho0, hi, hb, hk⟩; refine ⟨_, rfl, ?_⟩; have HO421 := q_ (Kd.R_lower ho0 (keep_size (w := w) (g := g) (row := none) (by repeat (first | (with_reducible first | exact HK.out | apply KeepBut.set_ | apply keep_drewN | apply keep_drew | apply keep_alloc) | exact HK.out)))); replace HK := q_ (KeepBut.trans (by repeat (first | (with_reducible first | exact HK.out | apply KeepBut.set_ | apply keep_drewN | apply keep_drew | apply keep_alloc) | exact HK.out)) hk (.inl rfl)); replace HB := q_ (hb); replace HI0 := q_ (hi); (try clear hb); (try clear hk); (try clear hi); (try clear ho0)) | ((with_reducible refine gate_callee (f := 35) rfl ?_); refine gl_ (some 7) Try.func35 #[.pointer (some ⟨g, 0, none⟩), .int .i64 8] rfl al_ ?_; (with_reducible refine (spec_l1Below.calls g s0_0 t422 t423 8 t424 t425 t426 w0 _ ?side1 ?side2 A3.out).mono ?_); (case side1 => repeat (first | (with_reducible first | exact HI0.out | apply IsS98.alloc | apply IsS98.drewN | apply IsS98.drew | apply IsS98.set_1 | apply IsS98.set_2) | exact HI0.out)); (case side2 => repeat (first | (with_reducible first | exact HB.out | apply below_alloc | apply pw_below_drewN | apply below_drew1 | refine below_set ?_ (IsS98.ge HI0.out)) | exact HB.out)); rintro e w22 ⟨rfl, hi, hb, hk⟩; refine ⟨_, rfl, ?_⟩; replace HO421 := q_ (Kd.R_mono (Kd.R_keep (IsS98.apart (show IsS98 w0 _ g s0_0 t422 t423 from by repeat (first | (with_reducible first | exact HI0.out | apply IsS98.alloc | apply IsS98.drewN | apply IsS98.drew | apply IsS98.set_1 | apply IsS98.set_2) | exact HI0.out)) (kr_ HO421.out) (by decide)) hk (fun _ h => h.2)) (fun _ h => h.1)); replace HK := q_ (KeepBut.trans (by repeat (first | (with_reducible first | exact HK.out | apply KeepBut.set_ | apply keep_drewN | apply keep_drew | apply keep_alloc) | exact HK.out)) hk (.inl rfl)); replace HB := q_ (hb); replace HI0 := q_ (hi); (try clear hb); (try clear hk); (try clear hi); obtain ⟨Ao23, co23, eo23⟩ := Kd.R_slice HO421.out; subst eo23) | ((with_reducible refine gate_callee (f := 35) rfl ?_); refine gl_ (some 25) Try.func35 #[.pointer (some ⟨g, 0, none⟩), .int .i64 2] rfl al_ ?_; (with_reducible refine (spec_l1Below.calls g s0_0 t425 t426 2 t436 t437 t438 w0 _ ?side1 ?side2 A15.out).mono ?_); (case side1 => repeat (first | (with_reducible first | exact HI0.out | apply IsS98.alloc | apply IsS98.drewN | apply IsS98.drew | apply IsS98.set_1 | apply IsS98.set_2) | exact HI0.out)); (case side2 => repeat (first | (with_reducible first | exact HB.out | apply below_alloc | apply pw_below_drewN | apply below_drew1 | refine below_set ?_ (IsS98.ge HI0.out)) | exact HB.out)); rintro e w24 ⟨rfl, hi, hb, hk⟩; refine ⟨_, rfl, ?_⟩; replace HO421 := q_ (Kd.R_mono (Kd.R_keep (IsS98.apart (show IsS98 w0 _ g s0_0 t425 t426 from by repeat (first | (with_reducible first | exact HI0.out | apply IsS98.alloc | apply IsS98.drewN | apply IsS98.drew | apply IsS98.set_1 | apply IsS98.set_2) | exact HI0.out)) (kr_ HO421.out) (by decide)) hk (fun _ h => h.2)) (fun _ h => h.1)); replace HK := q_ (KeepBut.trans (by repeat (first | (with_reducible first | exact HK.out | apply KeepBut.set_ | apply keep_drewN | apply keep_drew | apply keep_alloc) | exact HK.out)) hk (.inl rfl)); replace HB := q_ (hb); replace HI0 := q_ (hi); (try clear hb); (try clear hk); (try clear hi)) | ((with_reducible refine gate_dst (N := 27) rfl ?_); refine Kd.R_make (Kd.int .u8) _ 5 rfl (N := 27) rfl 22 _ _ rfl ji16 rfl rfl Try.underlying22 (.int .u8 0) 1 info5 rfl (by decide) (by omega) 0 (ok := fun _ => True) (okp := fun _ => True) rfl (fun _ hk => hk) trivial od_ (Nat.le_trans (Nat.mul_le_mul_right _ (od_ : ji16.toNat ≤ 281474976710656)) (by omega)) (Below.refl _ _) (Nat.le_refl _) ?_; intro v440 w25 ho26 hb hg_ hnew_; clear hg_ hnew_; (first | rw [← Ny439.out] at ho26 | (simp only [Int.reduceToNat] at ho26; rw [← Ny439.out] at ho26)); replace HO421 := q_ (Kd.R_below (kr_ HO421.out) hb); have HO441 := q_ (Kd.R_lower ho26 (keep_size (w := w) (g := g) (row := none) (by repeat (first | (with_reducible first | exact HK.out | apply KeepBut.set_ | apply keep_drewN | apply keep_drew | apply keep_alloc) | exact HK.out)))); replace HK := q_ (KeepBut.trans (by repeat (first | (with_reducible first | exact HK.out | apply KeepBut.set_ | apply keep_drewN | apply keep_drew | apply keep_alloc) | exact HK.out)) (KeepBut.of_below hb g none) (.inl rfl)); replace HB := q_ (below_step (bs_ HB.out (IsS98.ge HI0.out)) hb); replace HI0 := q_ (IsS98.below (by repeat (first | (with_reducible first | exact HI0.out | apply IsS98.alloc | apply IsS98.drewN | apply IsS98.drew | apply IsS98.set_1 | apply IsS98.set_2) | exact HI0.out)) hb); clear hb ho26; have hcv27 := own_string (P := Try.prog) Try.underlying22 Try.underlying5 Try.underlying9 (Kd.own_of_R HO441.out); have p20 : 0 ≤ (0 : Int) := (by omega); have q20 : (0 : Int) < ((t419.length : Int) : Int) := od_; have qi20 : (0 < t419.length) = True := eq_true (by omega); obtain ⟨go20, co20, eo20, gb20, gl20, cl20, HG20⟩ := Kd.R_form HO421.out (by omega); (first | cases eo20 | (injection eo20 with ea_ en_ ec_; (first | subst ea_ | (injection ea_ with ea_; subst ea_)); subst ec_; clear en_)); have GB20 := Aside0.mk gb20; have GG20 := Aside0.mk HG20; clear gb20 gl20 HG20; obtain ⟨ce20, hcl20, hM20, hcc20, hfr20⟩ := Kd.R_elem HO421.out z26 (0 : Int) p20 q20; obtain rfl := k26_openM hM20; have hx20_0 : w25.cell? ⟨go20, (0 : Int).toNat * 2, none⟩ = some (.string ((rd_T26 t419 0).f0)) := hcc20 0 _ rfl; have hx20_1 : w25.cell? ⟨go20, (0 : Int).toNat * 2 + 1, none⟩ = some (.string ((rd_T26 t419 0).f1)) := hcc20 1 _ rfl; have hf20_0 : w25.frozen? ⟨go20, (0 : Int).toNat * 2, none⟩ = false := hfr20 0; have hf20_1 : w25.frozen? ⟨go20, (0 : Int).toNat * 2 + 1, none⟩ = false := hfr20 1; clear hcl20 hcc20 hfr20 hM20; (try rw [show ((0 : Int)).toNat = 0 from rfl] at hx20_0); (try simp only [Nat.reduceMul, Nat.zero_mul, Nat.zero_add, Nat.reduceAdd] at hx20_0); (try rw [show ((0 : Int)).toNat = 0 from rfl] at hf20_0); (try simp only [Nat.reduceMul, Nat.zero_mul, Nat.zero_add, Nat.reduceAdd] at hf20_0); (try rw [show ((0 : Int)).toNat = 0 from rfl] at hx20_1); (try simp only [Nat.reduceMul, Nat.zero_mul, Nat.zero_add, Nat.reduceAdd] at hx20_1); (try rw [show ((0 : Int)).toNat = 0 from rfl] at hf20_1); (try simp only [Nat.reduceMul, Nat.zero_mul, Nat.zero_add, Nat.reduceAdd] at hf20_1); replace p20 := eq_true p20; replace q20 := eq_true q20; have HX28 := q_ (show Kd.R k26 26 w25 w.heap.size (fun _ => True) (.slice (some ⟨go20, 0, none⟩) t419.length co23) t419 from (kr_ HO421.out)); obtain ⟨ce28, hcl28, hM28, hcc28, hfr28⟩ := Kd.R_elem HX28.out z26 (0 : Int) (by omega) (by have h_ : (0 : Int) < ((t419.length : Int) : Int) := od_; first | exact h_ | (have e_ := (Kd.R_reads' HO421.out).1; omega) | simpa using h_); obtain rfl := k26_openM hM28; have HP28 := Kd.R_seg HX28.out (0 : Int) (by omega) (by have h_ : (0 : Int) < ((t419.length : Int) : Int) := od_; first | exact h_ | (have e_ := (Kd.R_reads' HO421.out).1; omega) | simpa using h_) (seg := [.string (strOfNums y439)]) (j := 1) hcl28 hcc28 (show 2 ≤ 2 from by decide) (x' := (⟨(rd_T26 t419 0).f0, strOfNums y439⟩ : S26)) (k26_mkM _ _ _ (⟨(rd_T26 t419 0).f0, strOfNums y439⟩ : S26) ) (fun _ hk => hk); have hx28_1 := hcc28 1 _ rfl; (try simp only [show (k26).sz = 2 from rfl, Nat.mul_one, Nat.add_zero] at hx28_1); (try rw [show ((0 : Int)).toNat = 0 from rfl] at hx28_1); (try simp only [Nat.reduceMul, Nat.zero_mul, Nat.zero_add, Nat.reduceAdd] at hx28_1); have hf28_1 := hfr28 1; (try simp only [show (k26).sz = 2 from rfl, Nat.mul_one, Nat.add_zero] at hf28_1); (try rw [show ((0 : Int)).toNat = 0 from rfl] at hf28_1); (try simp only [Nat.reduceMul, Nat.zero_mul, Nat.zero_add, Nat.reduceAdd] at hf28_1); clear hcl28 hcc28 hfr28 hM28) | ((with_reducible refine gate_store (t := 9) (p := 30) rfl ?_); refine store_event (t := 9) (p := 30) (v := ?vo_w29) (w1 := (w25.setCell ⟨go20, 1, none⟩ (.string (strOfNums y439)))) ?hg ?ho ?hn ?hr ?_; (case ho => rfl); (case hg => rfl); (case hn => rfl); (case hr => first | (go_simp; done) | (go_simp; rfl)); intro w29 hw; have hg : w25.grownBy w29 (some go20) := (by rw [hw]; exact HP28.2); have hp_ : Kd.R k26 26 w29 w.heap.size (fun _ => True) (.slice (some ⟨go20, 0, none⟩) t419.length co23) y442 := (by rw [hw, Ny442.out]; exact HP28.1); clear HP28; replace HI0 := q_ (IsS98.grown (by repeat (first | (with_reducible first | exact HI0.out | apply IsS98.alloc | apply IsS98.drewN | apply IsS98.drew | apply IsS98.set_1 | apply IsS98.set_2) | exact HI0.out)) hg (IsS98.own_ne HI0.out HO421.out (by decide))); replace HO441 := q_ (Kd.R_over' (v := (.slice (some ⟨go20, 0, none⟩) t419.length co23)) (kr_ HO441.out) (Kd.R_typed HO421.out) (by decide) hg); replace HB := q_ ((by rw [hw]; exact below_set (HB.out) (Nat.le_trans HL.out GB20.out) : Below w0.heap.size w0 w29)); replace HK := q_ (KeepBut.trans (by repeat (first | (with_reducible first | exact HK.out | apply KeepBut.set_ | apply keep_drewN | apply keep_drew | apply keep_alloc) | exact HK.out)) (KeepBut.of_grown hg g) (Kd.R_base2 HO421.out)); replace HO421 := q_ (hp_); clear hg hw hp_))
      go_ret
      exact ⟨_, by first | rfl | (simp [errW_none, errW_some] <;> rfl) | (simp only [← hji16]; first | rfl | (simp [errW_none, errW_some] <;> rfl)) | (simp [*, errW_none, errW_some] <;> rfl), by (with_reducible repeat (first | apply Kd.R_alloc | apply Kd.R_drewN | apply Kd.R_drew)); exact HO421.out, by repeat (first | (with_reducible first | exact HI0.out | apply IsS98.alloc | apply IsS98.drewN | apply IsS98.drew | apply IsS98.set_1 | apply IsS98.set_2) | exact HI0.out), bs_ HB.out (IsS98.ge HI0.out), by repeat (first | (with_reducible first | exact HK.out | apply KeepBut.set_ | apply keep_drewN | apply keep_drew | apply keep_alloc) | exact HK.out)⟩
    · rw [if_neg c13] at H
      have c13b0 := beq_eq_false_iff_ne.mpr c13
      have c13b1 := bne_iff_ne.mpr c13
      simp only [Option.some.injEq, Prod.mk.injEq] at H
      obtain ⟨rfl, rfl, rfl⟩ := H
      go_enter Try.func38, Try.ntmps38
      go_wp2_with (first | ((with_reducible refine gate_callee (f := 33) rfl ?_); refine gl_ (some 5) Try.func33 #[.pointer (some ⟨g, 0, none⟩)] rfl al_ ?_; (with_reducible refine (spec_l3Draw.calls k g s0_0 s0_1 s0_2 t419 t422 t423 w0 _ ?side1 ?side2 A2.out).mono ?_); (case side1 => repeat (first | (with_reducible first | exact HI0.out | apply IsS98.alloc | apply IsS98.drewN | apply IsS98.drew | apply IsS98.set_1 | apply IsS98.set_2) | exact HI0.out)); (case side2 => repeat (first | (with_reducible first | exact HB.out | apply below_alloc | apply pw_below_drewN | apply below_drew1 | refine below_set ?_ (IsS98.ge HI0.out)) | exact HB.out)); rintro e w33 ⟨v420, rfl, ho0, hi, hb, hk⟩; refine ⟨_, rfl, ?_⟩; have HO421 := q_ (Kd.R_lower ho0 (keep_size (w := w) (g := g) (row := none) (by repeat (first | (with_reducible first | exact HK.out | apply KeepBut.set_ | apply keep_drewN | apply keep_drew | apply keep_alloc) | exact HK.out)))); replace HK := q_ (KeepBut.trans (by repeat (first | (with_reducible first | exact HK.out | apply KeepBut.set_ | apply keep_drewN | apply keep_drew | apply keep_alloc) | exact HK.out)) hk (.inl rfl)); replace HB := q_ (hb); replace HI0 := q_ (hi); (try clear hb); (try clear hk); (try clear hi); (try clear ho0)) | ((with_reducible refine gate_callee (f := 35) rfl ?_); refine gl_ (some 7) Try.func35 #[.pointer (some ⟨g, 0, none⟩), .int .i64 8] rfl al_ ?_; (with_reducible refine (spec_l1Below.calls g s0_0 t422 t423 8 t424 t425 t426 w0 _ ?side1 ?side2 A3.out).mono ?_); (case side1 => repeat (first | (with_reducible first | exact HI0.out | apply IsS98.alloc | apply IsS98.drewN | apply IsS98.drew | apply IsS98.set_1 | apply IsS98.set_2) | exact HI0.out)); (case side2 => repeat (first | (with_reducible first | exact HB.out | apply below_alloc | apply pw_below_drewN | apply below_drew1 | refine below_set ?_ (IsS98.ge HI0.out)) | exact HB.out)); rintro e w34 ⟨rfl, hi, hb, hk⟩; refine ⟨_, rfl, ?_⟩; replace HO421 := q_ (Kd.R_mono (Kd.R_keep (IsS98.apart (show IsS98 w0 _ g s0_0 t422 t423 from by repeat (first | (with_reducible first | exact HI0.out | apply IsS98.alloc | apply IsS98.drewN | apply IsS98.drew | apply IsS98.set_1 | apply IsS98.set_2) | exact HI0.out)) (kr_ HO421.out) (by decide)) hk (fun _ h => h.2)) (fun _ h => h.1)); replace HK := q_ (KeepBut.trans (by repeat (first | (with_reducible first | exact HK.out | apply KeepBut.set_ | apply keep_drewN | apply keep_drew | apply keep_alloc) | exact HK.out)) hk (.inl rfl)); replace HB := q_ (hb); replace HI0 := q_ (hi); (try clear hb); (try clear hk); (try clear hi)))
      go_ret
      exact ⟨_, rf_, by (with_reducible repeat (first | apply Kd.R_alloc | apply Kd.R_drewN | apply Kd.R_drew)); exact HO421.out, by repeat (first | (with_reducible first | exact HI0.out | apply IsS98.alloc | apply IsS98.drewN | apply IsS98.drew | apply IsS98.set_1 | apply IsS98.set_2) | exact HI0.out), bs_ HB.out (IsS98.ge HI0.out), by repeat (first | (with_reducible first | exact HK.out | apply KeepBut.set_ | apply keep_drewN | apply keep_drew | apply keep_alloc) | exact HK.out)⟩

end Go.Proofs.Ythkaifddpjjmaaa.P
