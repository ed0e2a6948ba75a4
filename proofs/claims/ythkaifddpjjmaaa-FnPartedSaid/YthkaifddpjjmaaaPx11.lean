-- Written by wip/xp/xp.py over the kit's print; Lean checks it.
import Derived.Test.YthkaifddpjjmaaaPx0
import Derived.Test.YthkaifddpjjmaaaPx7
import Derived.Test.YthkaifddpjjmaaaPx9
import Derived.Test.YthkaifddpjjmaaaPx10
namespace Go.Proofs.Ythkaifddpjjmaaa.P
open Go.RowKit Go.Proofs.YthkaifddpjjmaaaW.PrintWords Go.Proofs.YthkaifddpjjmaaaW.PrintLast Go.Proofs.YthkaifddpjjmaaaW.PrintMore
attribute [local go_sem] max2_int min2_int max_two min_two max_three min_three max_four min_four   -- for this text's walks alone
set_option linter.unusedVariables false
set_option linter.unusedSimpArgs false

/-! ###  impl_pathOf: function 43 -/
def impl_pathOf.f : Nat → List (S26) → Int → Option (List ByteArray)
  | 0, _, _ => none
  | k + 1, l0, a1 => if (l0.length : Int) = 1 then (some ([] : List ByteArray)) else ((impl_half.f k (l0.length : Int)).bind fun t618 => (if a1 < t618 then (if 0 ≤ t618 then (if t618 ≤ (l0.length : Int) then ((impl_pathOf.f k (l0.take (t618 : Int).toNat) a1).bind fun t623 => ((impl_innerOf.f k (l0.drop (t618 : Int).toNat)).bind fun t630 => (if t623.length < 8796093022208 then (some (t623 ++ [t630])) else (none)))) else (none)) else (none)) else (if 0 ≤ t618 then (if t618 ≤ (l0.length : Int) then ((impl_pathOf.f k (l0.drop (t618 : Int).toNat) (wrap64 (a1 - t618))).bind fun t638 => ((impl_innerOf.f k (l0.take (t618 : Int).toNat)).bind fun t645 => (if t638.length < 8796093022208 then (some (t638 ++ [t645])) else (none)))) else (none)) else (none))))
def impl_pathOf.T5 : Bool × List (List Nat × List Nat) := (true, [([], []), ([], []), ([0, 1], [0, 1]), ([], []), ([2, 3], [2, 3]), ([], []), ([], []), ([5, 6], [5, 6]), ([7, 4], [7]), ([8], [8]), ([4, 9, 8], [4, 9]), ([10, 10, 0, 1, 2, 3, 4, 5, 6, 7, 8, 9, 10], [10])])
def impl_pathOf.B5 : List Nat := [0, 0, 3, 0, 15, 0, 0, 96, 255, 511, 1023, 2047]
theorem impl_pathOf.tab5 : rtab .any (opsOf Try.f43 5) = impl_pathOf.T5 := by kernel_rfl
theorem impl_pathOf.bits5 : waitsOk impl_pathOf.T5.2 impl_pathOf.B5 = true := by kernel_rfl
def impl_pathOf.T6 : Bool × List (List Nat × List Nat) := (true, [([], []), ([], []), ([0, 1], [0, 1]), ([], []), ([], []), ([3, 4], [3, 4]), ([2, 5], [2, 5]), ([], []), ([], []), ([7, 8], [7, 8]), ([9, 6], [9]), ([10], [10]), ([6, 11, 10], [6, 11]), ([12, 12, 0, 1, 2, 3, 4, 5, 6, 7, 8, 9, 10, 11, 12], [12])])
def impl_pathOf.B6 : List Nat := [0, 0, 3, 0, 0, 24, 63, 0, 0, 384, 1023, 2047, 4095, 8191]
theorem impl_pathOf.tab6 : rtab .any (opsOf Try.f43 6) = impl_pathOf.T6 := by kernel_rfl
theorem impl_pathOf.bits6 : waitsOk impl_pathOf.T6.2 impl_pathOf.B6 = true := by kernel_rfl
set_option maxHeartbeats 8000000 in
set_option maxRecDepth 100000 in
theorem impl_pathOf.calls (k : Nat) : ∀ (A0 : Option Addr) (c0 : Nat) (l0 : List (S26)) (a1 : Int) (r : List ByteArray) (w : World) (hr0 : Kd.C k26 w A0 l0.length l0) (hc0 : l0.length ≤ c0) (h : impl_pathOf.f k l0 a1 = some r),
  Calls Try.prog 43 #[.slice A0 l0.length c0, .int .i64 a1] w fun e w' => ∃ v0_ : Value, e = .returned (v0_) ∧ Kd.R Kd.string 9 w' w.heap.size (fun _ => True) v0_ r ∧ Below w.heap.size w w' := by
  induction k using Nat.strongRecOn with
  | _ k ih =>
  intro A0 c0 l0 a1 r w hr0 hc0 h
  cases k with
  | zero => exact absurd h (by simp [impl_pathOf.f])
  | succ k =>
  simp only [impl_pathOf.f] at h
  have HR0 := Aside0.mk hr0
  have HC0 := Aside0.mk hc0
  clear hr0 hc0
  have HB := q_ (Below.refl w.heap.size w)
  have H : (if (l0.length : Int) = 1 then (some ([] : List ByteArray)) else ((impl_half.f k (l0.length : Int)).bind fun t618 => (if a1 < t618 then (if 0 ≤ t618 then (if t618 ≤ (l0.length : Int) then ((impl_pathOf.f k (l0.take (t618 : Int).toNat) a1).bind fun t623 => ((impl_innerOf.f k (l0.drop (t618 : Int).toNat)).bind fun t630 => (if t623.length < 8796093022208 then (some (t623 ++ [t630])) else (none)))) else (none)) else (none)) else (if 0 ≤ t618 then (if t618 ≤ (l0.length : Int) then ((impl_pathOf.f k (l0.drop (t618 : Int).toNat) (wrap64 (a1 - t618))).bind fun t638 => ((impl_innerOf.f k (l0.take (t618 : Int).toNat)).bind fun t645 => (if t638.length < 8796093022208 then (some (t638 ++ [t645])) else (none)))) else (none)) else (none))))) = some r := h
  clear h
  by_cases c3 : (l0.length : Int) = 1
  · rw [if_pos c3] at H
    have c3b0 := beq_iff_eq.mpr c3
    have c3b1 := bne_eq_false_iff_eq.mpr c3
    clear c3
    obtain rfl := Option.some.inj H
    go_enter Try.func43, Try.ntmps43
    go_wp2
    go_ret
    exact ⟨_, rf_, by first | exact Kd.R_nil _ _ _ _ _ | exact Kd.N_nil _ _ _ _ _ | exact Kd.V_nil _ _ _ _ _ | exact Kd.Q_nil _ _ _ _ _ | exact Kd.S_nil _ _ _ _ _, be_ HB.out⟩
  · rw [if_neg c3] at H
    have c3b0 := beq_eq_false_iff_ne.mpr c3
    have c3b1 := bne_iff_ne.mpr c3
    obtain ⟨t618, A4, H⟩ := bo_ H
    by_cases c5 : a1 < t618
    · rw [if_pos c5] at H
      have c5b0 := decide_eq_true c5
      clear c5
      obtain ⟨c6, H⟩ := ip_ H
      have c6b0 := eq_true c6
      have c6b1 : decide (0 ≤ t618) = true := decide_eq_true c6
      clear c6
      obtain ⟨c7, H⟩ := ip_ H
      have c7b0 := eq_true c7
      have c7b1 : decide (t618 ≤ (l0.length : Int)) = true := decide_eq_true c7
      clear c7
      obtain ⟨y619, hy619⟩ : ∃ y_ : List (S26), y_ = (l0.take (t618 : Int).toNat) := ⟨_, rfl⟩
      replace H : ((impl_pathOf.f k y619 a1).bind fun t623 => ((impl_innerOf.f k (l0.drop (t618 : Int).toNat)).bind fun t630 => (if t623.length < 8796093022208 then (some (t623 ++ [t630])) else (none)))) = some r := ry_ hy619 H
      have Ny619 := Aside0.mk hy619
      clear hy619
      obtain ⟨t623, A8, H⟩ := bo_ H
      have c9b0 := eq_true (od_ : 0 ≤ t618)
      have c10b0 := eq_true (od_ : t618 ≤ (l0.length : Int))
      obtain ⟨y626, hy626⟩ : ∃ y_ : List (S26), y_ = (l0.drop (t618 : Int).toNat) := ⟨_, rfl⟩
      replace H : ((impl_innerOf.f k y626).bind fun t630 => (if t623.length < 8796093022208 then (some (t623 ++ [t630])) else (none))) = some r := ry_ hy626 H
      have Ny626 := Aside0.mk hy626
      clear hy626
      obtain ⟨t630, A11, H⟩ := bo_ H
      obtain ⟨c12, H⟩ := ip_ H
      have LMc12 := Aside0.mk c12
      clear c12
      obtain ⟨y631, hy631⟩ : ∃ y_ : List ByteArray, y_ = (t623 ++ [t630]) := ⟨_, rfl⟩
      replace H : (some y631) = some r := ry_ hy631 H
      have Ny631 := Aside0.mk hy631
      clear hy631
      obtain rfl := Option.some.inj H
      go_enter Try.func43, Try.ntmps43
      try go_wp2_with (first | ((with_reducible refine gate_callee (f := 86) rfl ?_); refine gl_ (some 11) Try.func86 #[.int .i64 (l0.length : Int)] rfl al_ ?_; (with_reducible refine (impl_half.calls k (l0.length : Int) t618 _ A4.out).mono ?_); rintro e w' ⟨rfl, ⟨nd, rfl⟩⟩; refine ⟨_, rfl, ?_⟩))
      replace HB := q_ (below_drew1 (pw_below_drewN HB.out nd))
      have q14 : (t618 : Int) ≤ ((l0.length : Int) : Int) := od_
      obtain ⟨i014, hi014, _, hsz14, _⟩ := info_parts info26
      have hroom14 : l0.length ≤ c0 := HC0.out
      have hC14 : Kd.C k26 _ A0 l0.length l0 := HR0.out
      have hcut14 := cut_to (P := Try.prog) 24 26 .i64 Try.underlying24 hi014 A0 l0.length c0 t618 od_ q14 hroom14
      have hr14 := Kd.C_take (m := (t618 : Int).toNat) hC14 (by omega)
      have hy14 : y619.length = (t618 : Int).toNat := (by rw [Ny619.out, List.length_take]; omega)
      rw [← Ny619.out] at hr14
      rw [← hy14] at hcut14
      have HR622 := Aside0.mk hr14
      have HC622 := q_ (show y619.length ≤ c0 from by omega)
      clear hr14 hC14 hroom14 hi014 hsz14
      have KY14 := Aside0.mk hy14
      clear hy14
      replace q14 := eq_true q14
      have q15 : (t618 : Int) ≤ ((l0.length : Int) : Int) := od_
      obtain ⟨i015, hi015, _, hsz15, _⟩ := info_parts info26
      have hroom15 : l0.length ≤ c0 := HC0.out
      have hC15 : Kd.C k26 _ A0 l0.length l0 := HR0.out
      have q015 : (0 : Int) ≤ (t618 : Int) := od_
      have hcut15 := cut_from (P := Try.prog) 24 26 .i64 Try.underlying24 hi015 2 hsz15 A0 l0.length c0 t618 q015 q15
      have hr15 := Kd.C_drop (m := (t618 : Int).toNat) (c := c0) hC15 (by omega) hroom15
      obtain ⟨A15, hA15⟩ : ∃ A1, A1 = (if c0 = (t618 : Int).toNat then A0 else (A0 : Option Addr).map (·.add ((t618 : Int).toNat * 2))) := ⟨_, rfl⟩
      obtain ⟨c15, hc15⟩ : ∃ c1, c1 = c0 - (t618 : Int).toNat := ⟨_, rfl⟩
      have hy15 : y626.length = l0.length - (t618 : Int).toNat := (by rw [Ny626.out, List.length_drop] <;> omega)
      rw [show (l0).drop (t618 : Int).toNat = y626 from Ny626.out.symm] at hr15
      replace hr15 : Kd.C k26 _ A15 y626.length y626 := (by rw [hA15]; exact hr15)
      rw [← hy15, ← hA15, ← hc15] at hcut15
      have HR629 := Aside0.mk hr15
      have HC629 := q_ (show y626.length ≤ c15 from by rw [hy15, hc15]; exact Nat.sub_le_sub_right hroom15 _)
      clear hr15 hC15 hroom15 hi015 hsz15 hc15
      have KY15 := Aside0.mk hy15
      have KA15 := Aside0.mk hA15
      clear hy15 hA15
      replace q15 := eq_true q15
      refine start_ (n := 12) (S := fun w' => True) (ds := []) (bq_ 0 12) (by kernel_rfl) rfl rfl trivial (fun hHeld => ?_); refine with_tabW impl_pathOf.tab5 impl_pathOf.bits5 (fun HT_ HW_ => ?_)
      generalize (World.drewN w nd).drew = w13 at HB HR622 HR629 hHeld ⊢
      refine p_ 0 15 HT_ ?_; refine p_ 1 16 HT_ ?_; refine p_ 2 17 HT_ ?_; refine p_ 3 18 HT_ ?_; refine p_ 5 20 HT_ ?_; refine p_ 6 21 HT_ ?_; refine p_ 7 22 HT_ ?_
      refine oc_ 4 19 (bq_ 8 4) HT_ Try.func43 #[.slice A0 y619.length c0, .int .i64 a1] ?_
      with_reducible refine (ih k (by omega) _ _ y619 a1 t623 _ ?side1 ?side2 A8.out).mono ?_
      (case side1 => exact kc_ (Kd.C_below HR622.out HB.out))
      (case side2 => exact HC622.out)
      rintro e w16 ⟨v624, rfl, ho0, hb⟩
      refine ⟨_, rfl, ?_⟩
      have HO625 := q_ (Kd.R_lower ho0 (below_size (be_ HB.out)))
      replace HB := q_ (below_step (be_ HB.out) hb)
      (try clear hb)
      (try clear hb2)
      (try clear hk)
      (try clear hi)
      (try clear ho0)
      refine ⟨trivial, fun hHeld => nm_ ?_⟩
      refine oc_ 8 23 (bq_ 9 3) HT_ Try.func46 #[.slice A15 y626.length c15] ?_
      with_reducible refine (impl_innerOf.calls k _ _ y626 t630 _ ?side1 ?side2 A11.out).mono ?_
      (case side1 => exact kc_ (Kd.C_below HR629.out HB.out))
      (case side2 => exact HC629.out)
      rintro e w17 ⟨rfl, hb⟩
      refine ⟨_, rfl, ?_⟩
      replace HO625 := q_ (Kd.R_below (kr_ HO625.out) hb)
      replace HB := q_ (below_step (be_ HB.out) hb)
      (try clear hb)
      (try clear hb2)
      (try clear hk)
      (try clear hi)
      refine ⟨trivial, fun hHeld => nm_ ?_⟩
      refine on_ 9 (some 24) (bq_ 10 2) HT_ (fun K hK => ?_)
      refine value_ (w1 := ?_) (v := ?_) (by rfl) rfl ?_ ?_
      rotate_left 2
      · go_simp
        constructor
        · rfl
        · rfl
      refine hK.out _ _ trivial (fun hHeld => ?_)
      clear hK K
      refine nm_ ?_
      refine on_ 10 (some 25) (bq_ 11 1) HT_ (fun K hK => ?_)
      refine Kd.R_append_step Kd.string (w0 := w) w.heap.size (by rfl) (.tmp 19) (.tmp 24) 27 9 (.string ⟨#[]⟩) 16 rfl Try.underlying27 info9 rfl (by decide) (by omega) v624 t623 t630 [.string t630] (fun _ => True) (fun _ => False) rfl rfl ?aP (fun _ hk => hk.elim) ?aF ?aO ?aB ?aS ?aL ?_
      (case aP => exact rfl)
      (case aB => exact (be_ HB.out))
      (case aF => exact (fun _ _ => trivial))
      (case aO => exact (kr_ HO625.out))
      (case aS => exact (below_size (be_ HB.out)))
      (case aL => have := LMc12.out; omega)
      intro v632 w18 ho hb hg hat
      rw [← Ny631.out] at ho
      have n0_ := q_ (hb)
      have n1_ := q_ (ho)
      clear HB
      clear HO625
      have HB := n0_
      have HO633 := n1_
      clear n0_ n1_
      clear ho hb hg hat
      refine hK.out _ _ trivial (fun hHeld => ?_)
      clear hK K
      refine nm_ ?_
      refine p_ 11 4 HT_ ?_
      refine done_ (done_of HT_.out (by kernel_rfl)) ?_
      try go_wp2
      go_ret
      exact ⟨_, rf_, by (with_reducible repeat (first | apply Kd.R_alloc | apply Kd.R_drewN | apply Kd.R_drew)); exact HO633.out, be_ HB.out⟩
    · rw [if_neg c5] at H
      have c5b0 := decide_eq_false c5
      clear c5
      obtain ⟨c19, H⟩ := ip_ H
      have c19b0 := eq_true c19
      have c19b1 : decide (0 ≤ t618) = true := decide_eq_true c19
      clear c19
      obtain ⟨c20, H⟩ := ip_ H
      have c20b0 := eq_true c20
      have c20b1 : decide (t618 ≤ (l0.length : Int)) = true := decide_eq_true c20
      clear c20
      obtain ⟨y634, hy634⟩ : ∃ y_ : List (S26), y_ = (l0.drop (t618 : Int).toNat) := ⟨_, rfl⟩
      replace H : ((impl_pathOf.f k y634 (wrap64 (a1 - t618))).bind fun t638 => ((impl_innerOf.f k (l0.take (t618 : Int).toNat)).bind fun t645 => (if t638.length < 8796093022208 then (some (t638 ++ [t645])) else (none)))) = some r := ry_ hy634 H
      have Ny634 := Aside0.mk hy634
      clear hy634
      obtain ⟨t638, A21, H⟩ := bo_ H
      have c22b0 := eq_true (od_ : 0 ≤ t618)
      have c23b0 := eq_true (od_ : t618 ≤ (l0.length : Int))
      obtain ⟨y641, hy641⟩ : ∃ y_ : List (S26), y_ = (l0.take (t618 : Int).toNat) := ⟨_, rfl⟩
      replace H : ((impl_innerOf.f k y641).bind fun t645 => (if t638.length < 8796093022208 then (some (t638 ++ [t645])) else (none))) = some r := ry_ hy641 H
      have Ny641 := Aside0.mk hy641
      clear hy641
      obtain ⟨t645, A24, H⟩ := bo_ H
      obtain ⟨c25, H⟩ := ip_ H
      have LMc25 := Aside0.mk c25
      clear c25
      obtain ⟨y646, hy646⟩ : ∃ y_ : List ByteArray, y_ = (t638 ++ [t645]) := ⟨_, rfl⟩
      replace H : (some y646) = some r := ry_ hy646 H
      have Ny646 := Aside0.mk hy646
      clear hy646
      obtain rfl := Option.some.inj H
      go_enter Try.func43, Try.ntmps43
      try go_wp2_with (first | ((with_reducible refine gate_callee (f := 86) rfl ?_); refine gl_ (some 11) Try.func86 #[.int .i64 (l0.length : Int)] rfl al_ ?_; (with_reducible refine (impl_half.calls k (l0.length : Int) t618 _ A4.out).mono ?_); rintro e w' ⟨rfl, ⟨nd, rfl⟩⟩; refine ⟨_, rfl, ?_⟩))
      replace HB := q_ (below_drew1 (pw_below_drewN HB.out nd))
      have q27 : (t618 : Int) ≤ ((l0.length : Int) : Int) := od_
      obtain ⟨i027, hi027, _, hsz27, _⟩ := info_parts info26
      have hroom27 : l0.length ≤ c0 := HC0.out
      have hC27 : Kd.C k26 _ A0 l0.length l0 := HR0.out
      have q027 : (0 : Int) ≤ (t618 : Int) := od_
      have hcut27 := cut_from (P := Try.prog) 24 26 .i64 Try.underlying24 hi027 2 hsz27 A0 l0.length c0 t618 q027 q27
      have hr27 := Kd.C_drop (m := (t618 : Int).toNat) (c := c0) hC27 (by omega) hroom27
      obtain ⟨A27, hA27⟩ : ∃ A1, A1 = (if c0 = (t618 : Int).toNat then A0 else (A0 : Option Addr).map (·.add ((t618 : Int).toNat * 2))) := ⟨_, rfl⟩
      obtain ⟨c27, hc27⟩ : ∃ c1, c1 = c0 - (t618 : Int).toNat := ⟨_, rfl⟩
      have hy27 : y634.length = l0.length - (t618 : Int).toNat := (by rw [Ny634.out, List.length_drop] <;> omega)
      rw [show (l0).drop (t618 : Int).toNat = y634 from Ny634.out.symm] at hr27
      replace hr27 : Kd.C k26 _ A27 y634.length y634 := (by rw [hA27]; exact hr27)
      rw [← hy27, ← hA27, ← hc27] at hcut27
      have HR637 := Aside0.mk hr27
      have HC637 := q_ (show y634.length ≤ c27 from by rw [hy27, hc27]; exact Nat.sub_le_sub_right hroom27 _)
      clear hr27 hC27 hroom27 hi027 hsz27 hc27
      have KY27 := Aside0.mk hy27
      have KA27 := Aside0.mk hA27
      clear hy27 hA27
      replace q27 := eq_true q27
      have q28 : (t618 : Int) ≤ ((l0.length : Int) : Int) := od_
      obtain ⟨i028, hi028, _, hsz28, _⟩ := info_parts info26
      have hroom28 : l0.length ≤ c0 := HC0.out
      have hC28 : Kd.C k26 _ A0 l0.length l0 := HR0.out
      have hcut28 := cut_to (P := Try.prog) 24 26 .i64 Try.underlying24 hi028 A0 l0.length c0 t618 od_ q28 hroom28
      have hr28 := Kd.C_take (m := (t618 : Int).toNat) hC28 (by omega)
      have hy28 : y641.length = (t618 : Int).toNat := (by rw [Ny641.out, List.length_take]; omega)
      rw [← Ny641.out] at hr28
      rw [← hy28] at hcut28
      have HR644 := Aside0.mk hr28
      have HC644 := q_ (show y641.length ≤ c0 from by omega)
      clear hr28 hC28 hroom28 hi028 hsz28
      have KY28 := Aside0.mk hy28
      clear hy28
      replace q28 := eq_true q28
      refine start_ (n := 14) (S := fun w' => True) (ds := []) (bq_ 0 14) (by kernel_rfl) rfl rfl trivial (fun hHeld => ?_); refine with_tabW impl_pathOf.tab6 impl_pathOf.bits6 (fun HT_ HW_ => ?_)
      generalize (World.drewN w nd).drew = w26 at HB HR637 HR644 hHeld ⊢
      refine p_ 0 26 HT_ ?_; refine p_ 1 27 HT_ ?_; refine p_ 2 28 HT_ ?_; refine p_ 3 29 HT_ ?_; refine p_ 4 30 HT_ ?_; refine p_ 5 31 HT_ ?_; refine p_ 7 33 HT_ ?_; refine p_ 8 34 HT_ ?_; refine p_ 9 35 HT_ ?_
      refine oc_ 6 32 (bq_ 10 4) HT_ Try.func43 #[.slice A27 y634.length c27, .int .i64 (wrap64 (a1 - t618))] ?_
      with_reducible refine (ih k (by omega) _ _ y634 (wrap64 (a1 - t618)) t638 _ ?side1 ?side2 A21.out).mono ?_
      (case side1 => exact kc_ (Kd.C_below HR637.out HB.out))
      (case side2 => exact HC637.out)
      rintro e w29 ⟨v639, rfl, ho0, hb⟩
      refine ⟨_, rfl, ?_⟩
      have HO640 := q_ (Kd.R_lower ho0 (below_size (be_ HB.out)))
      replace HB := q_ (below_step (be_ HB.out) hb)
      (try clear hb)
      (try clear hb2)
      (try clear hk)
      (try clear hi)
      (try clear ho0)
      refine ⟨trivial, fun hHeld => nm_ ?_⟩
      refine oc_ 10 36 (bq_ 11 3) HT_ Try.func46 #[.slice A0 y641.length c0] ?_
      with_reducible refine (impl_innerOf.calls k _ _ y641 t645 _ ?side1 ?side2 A24.out).mono ?_
      (case side1 => exact kc_ (Kd.C_below HR644.out HB.out))
      (case side2 => exact HC644.out)
      rintro e w30 ⟨rfl, hb⟩
      refine ⟨_, rfl, ?_⟩
      replace HO640 := q_ (Kd.R_below (kr_ HO640.out) hb)
      replace HB := q_ (below_step (be_ HB.out) hb)
      (try clear hb)
      (try clear hb2)
      (try clear hk)
      (try clear hi)
      refine ⟨trivial, fun hHeld => nm_ ?_⟩
      refine on_ 11 (some 37) (bq_ 12 2) HT_ (fun K hK => ?_)
      refine value_ (w1 := ?_) (v := ?_) (by rfl) rfl ?_ ?_
      rotate_left 2
      · go_simp
        constructor
        · rfl
        · rfl
      refine hK.out _ _ trivial (fun hHeld => ?_)
      clear hK K
      refine nm_ ?_
      refine on_ 12 (some 38) (bq_ 13 1) HT_ (fun K hK => ?_)
      refine Kd.R_append_step Kd.string (w0 := w) w.heap.size (by rfl) (.tmp 32) (.tmp 37) 27 9 (.string ⟨#[]⟩) 16 rfl Try.underlying27 info9 rfl (by decide) (by omega) v639 t638 t645 [.string t645] (fun _ => True) (fun _ => False) rfl rfl ?aP (fun _ hk => hk.elim) ?aF ?aO ?aB ?aS ?aL ?_
      (case aP => exact rfl)
      (case aB => exact (be_ HB.out))
      (case aF => exact (fun _ _ => trivial))
      (case aO => exact (kr_ HO640.out))
      (case aS => exact (below_size (be_ HB.out)))
      (case aL => have := LMc25.out; omega)
      intro v647 w31 ho hb hg hat
      rw [← Ny646.out] at ho
      have n0_ := q_ (hb)
      have n1_ := q_ (ho)
      clear HB
      clear HO640
      have HB := n0_
      have HO648 := n1_
      clear n0_ n1_
      clear ho hb hg hat
      refine hK.out _ _ trivial (fun hHeld => ?_)
      clear hK K
      refine nm_ ?_
      refine p_ 13 4 HT_ ?_
      refine done_ (done_of HT_.out (by kernel_rfl)) ?_
      try go_wp2
      go_ret
      exact ⟨_, rf_, by (with_reducible repeat (first | apply Kd.R_alloc | apply Kd.R_drewN | apply Kd.R_drew)); exact HO648.out, be_ HB.out⟩

/-! ###  impl_IsClash: function 11 -/
-- by hand
def impl_IsClash.f (k : Nat) (a0 : ByteArray) (a1 : ByteArray) (a2 : Int) : Option (Bool) :=
  if a0.toList = a1.toList then some false else if 0 ≤ a2 ∧ a2 ≤ 32 then (if a0.size ≤ 9223372036854775807 ∧ a1.size ≤ 9223372036854775807 then
   (impl_Digest.f k (bytesOf a0)).bind fun d0 => (impl_Digest.f k (bytesOf a1)).bind fun d1 => if d0.size = 32 ∧ d1.size = 32 then some ((d0.extract 0 a2.toNat).toList == (d1.extract 0 a2.toNat).toList) else none else none) else some false
theorem impl_IsClash.dig (k : Nat) (s d : ByteArray) (A : Option Addr) (c : Nat) (w : World) (hC : (Kd.int .u8).C w A (bytesOf s).length (bytesOf s)) (hc : (bytesOf s).length ≤ c) (h : impl_Digest.f k (bytesOf s) = some d) :
  Calls Try.prog 53 #[.slice A s.size c] w fun e w' => e = .returned (.string d) ∧ Below w.heap.size w w' := by
  rw [← bytesOf_length s]
  exact impl_Digest.calls k A c (bytesOf s) d w hC hc h
theorem impl_IsClash.conv_step {P : Program} {ops : Array Oper} {o : Oper} {a : Act} {Q : Exit → Act → World → Prop} {Kc : Act → World → Prop} {W : World} (hw : Region.wanted o (yielded ops a.tmps) = true) (src dst e : TypeId) (x : Operand) (s : ByteArray) (ho : o.op = .convert src dst x) (hx : a.eval x = .string s)
  (hs : P.underlying src = some .string) (hd : P.underlying dst = some (.slice e)) (he : P.underlying e = some (.int .u8)) (hl : s.size ≤ 9223372036854775807)
  (h : ∀ g c w1, Kd.C (Kd.int .u8) w1 (some ⟨g, 0, none⟩) (bytesOf s).length (bytesOf s) → (bytesOf s).length ≤ c → Below W.heap.size W w1 → Kc (a.put o.dst (.slice (some ⟨g, 0, none⟩) s.size c)) w1) :
  if Region.wanted o (yielded ops a.tmps) = true then Oper.wp P o a W Kc Q else Kc (a.put o.dst undef) W := by
  have hlen : (bytesOf s).length = s.size := bytesOf_length s
  refine event_step hw (w1 := Lib.bytesWorld W e s) (v := .slice (some ⟨W.heap.size, 0, none⟩) s.size (grownCap W s.size 0 e)) ?_ ?_
  · have hr := Lib.run_convert_string_bytes (P := P) W src dst e s hs hd he
    unfold execOp
    rw [ho]
    simp only [hx]
    first | (simp [go_sem, hr]; done) | (simp [hr, Result.andThen]; done)
  · refine h _ _ _ ⟨rfl, by omega, fun _ => ⟨_, rfl, fun j p hp => ⟨[.int .u8 p], rfl, rfl, fun i u hu => ?_⟩⟩⟩ ?_ ⟨rfl, rfl, rfl, ?_, fun k hk => Lib.bytesWorld_at_old W e s k hk⟩
    · have hj : j < (bytesOf s).length := (List.getElem?_eq_some_iff.1 hp).1
      obtain ⟨rfl, rfl⟩ : i = 0 ∧ u = .int .u8 p := by
       cases i with
       | zero => simpa using hu.symm
       | succ i => simp at hu
      have hc := Lib.bytesWorld_cell W e s j (by omega)
      have hpj : p = ((s.data.toList.getD j 0).toNat : Int) := by
       have h1 := hp
       rw [bytesOf, List.getElem?_map] at h1
       obtain ⟨b, hb, rfl⟩ := Option.map_eq_some_iff.1 h1
       rw [List.getD_eq_getElem?_getD, hb]
       rfl
      have ha : (Addr.mk W.heap.size 0 none).add (j * (Kd.int .u8).sz + 0) = ⟨W.heap.size, j, none⟩ := by
       show (Addr.mk W.heap.size 0 none).add (j * 1 + 0) = _
       rw [Nat.mul_one, Nat.add_zero]
       unfold Addr.add
       split
       · next h0 => rw [h0]
       · simp
      rw [ha, hpj]
      exact hc
    · rw [hlen]
      exact grownCap_ge _ _ _ _
    · rw [Lib.bytesWorld_size]
      omega
def impl_IsClash.T1 : Bool × List (List Nat × List Nat) := (true, [([], []), ([], []), ([0, 1], [0, 1]), ([2], [2]), ([3], [3]), ([4, 3, 3], [3, 4]), ([3, 5], [3, 5]), ([6, 5], [6]), ([7], [7]), ([8, 7], [7, 8]), ([9, 7, 7], [7, 9]), ([7], [7]), ([10, 11, 7], [7, 10, 11]), ([7], [7]), ([13, 7], [7, 13]), ([14, 10, 7], [7, 14]), ([7], [7]), ([15, 16, 7], [7, 15, 16]), ([12, 17, 7], [7, 12, 17]), ([7, 18], [7, 18]), ([19, 15, 0, 1, 2, 3, 4, 5, 6, 7, 8, 9, 10, 11, 12, 13, 14, 15, 16, 17, 18, 19], [19])])
def impl_IsClash.B1 : List Nat := [0, 0, 3, 7, 15, 31, 63, 127, 255, 511, 1023, 255, 4095, 255, 8447, 26623, 255, 124927, 262143, 524287, 1048575]
theorem impl_IsClash.tab1 : rtab .any (opsOf Try.f11 1) = impl_IsClash.T1 := by kernel_rfl
theorem impl_IsClash.bits1 : waitsOk impl_IsClash.T1.2 impl_IsClash.B1 = true := by kernel_rfl
set_option maxHeartbeats 8000000 in
set_option maxRecDepth 100000 in
theorem impl_IsClash.calls (k : Nat) (a0 : ByteArray) (a1 : ByteArray) (a2 : Int) (r : Bool) (w : World) (h : impl_IsClash.f k a0 a1 a2 = some r) :
  Calls Try.prog 11 #[.string a0, .string a1, .int .i64 a2] w fun e w' => e = .returned (.bool r) ∧ Below w.heap.size w w' := by
  unfold impl_IsClash.f at h
  by_cases c : a0.toList = a1.toList
  · rw [if_pos c] at h
    obtain rfl := Option.some.inj h
    have cb0 : (a0.toList == a1.toList) = true := beq_iff_eq.mpr c
    have cb1 : (a0.toList != a1.toList) = false := bne_eq_false_iff_eq.mpr c
    clear c h
    go_enter Try.func11, Try.ntmps11
    go_wp2
    have HB := q_ (below_drew1 (Below.refl w.heap.size w))
    refine start_ (n := 21) (S := fun w' => True) (ds := []) (bq_ 0 21) (by kernel_rfl) rfl rfl trivial (fun hHeld => ?_); refine with_tabW impl_IsClash.tab1 impl_IsClash.bits1 (fun HT_ HW_ => ?_)
    generalize w.drew = w0 at HB hHeld ⊢
    clear hHeld
    refine o_ 0 7 HT_ ?_; refine o_ 1 8 HT_ ?_; refine o_ 2 9 HT_ ?_; refine o_ 3 10 HT_ ?_; refine u_ 4 11 HT_ ?_; refine u_ 5 12 HT_ ?_; refine o_ 6 13 HT_ ?_; refine o_ 7 14 HT_ ?_; refine u_ 8 15 HT_ ?_; refine u_ 9 16 HT_ ?_; refine u_ 10 17 HT_ ?_; refine u_ 11 18 HT_ ?_; refine u_ 12 19 HT_ ?_; refine u_ 13 20 HT_ ?_; refine u_ 14 21 HT_ ?_; refine u_ 15 22 HT_ ?_; refine u_ 16 23 HT_ ?_; refine u_ 17 24 HT_ ?_; refine u_ 18 25 HT_ ?_; refine o_ 19 26 HT_ ?_; refine o_ 20 6 HT_ ?_
    refine done_ (done_of HT_.out (by kernel_rfl)) ?_
    try go_wp2
    go_ret
    exact ⟨by first | rfl | (simp; done) | simp [*], HB.out⟩
  · rw [if_neg c] at h
    have cb0 : (a0.toList == a1.toList) = false := beq_eq_false_iff_ne.mpr c
    have cb1 : (a0.toList != a1.toList) = true := bne_iff_ne.mpr c
    clear c
    by_cases c2 : 0 ≤ a2 ∧ a2 ≤ 32
    · rw [if_pos c2] at h
      by_cases c3 : a0.size ≤ 9223372036854775807 ∧ a1.size ≤ 9223372036854775807
      rotate_left
      · rw [if_neg c3] at h; cases h
      rw [if_pos c3] at h
      obtain ⟨d0, h0, h⟩ := Option.bind_eq_some_iff.mp h
      obtain ⟨d1, h1, h⟩ := Option.bind_eq_some_iff.mp h
      by_cases c4 : d0.size = 32 ∧ d1.size = 32
      rotate_left
      · rw [if_neg c4] at h; cases h
      rw [if_pos c4] at h
      have hin : impl_inRange.f a2 0 32 = some true := by
       unfold impl_inRange.f
       by_cases c5 : a2 ≥ 0
       rotate_left
       · first | (exfalso; omega) | rw [if_neg c5]
       rw [if_pos c5]
       congr 1
       first | exact decide_eq_true (by omega) | exact decide_eq_false (by omega)
      have HI := Aside0.mk hin
      clear hin
      obtain rfl := Option.some.inj h
      have H0 := Aside0.mk h0
      have H1 := Aside0.mk h1
      have C3 := Aside0.mk c3
      have q1 : (0 : Int) ≤ a2 := c2.1
      have q2 : a2 ≤ (d0.size : Int) := by omega
      have q3 : a2 ≤ (d1.size : Int) := by omega
      clear h h0 h1 c2 c3 c4
      go_enter Try.func11, Try.ntmps11
      go_wp2
      have HB := q_ (below_drew1 (Below.refl w.heap.size w))
      refine start_ (n := 21) (S := fun w' => True) (ds := []) (bq_ 0 21) (by kernel_rfl) rfl rfl trivial (fun hHeld => ?_); refine with_tabW impl_IsClash.tab1 impl_IsClash.bits1 (fun HT_ HW_ => ?_)
      generalize w.drew = w0 at HB hHeld ⊢
      clear hHeld
      refine o_ 0 7 HT_ ?_; refine o_ 1 8 HT_ ?_; refine o_ 2 9 HT_ ?_; refine o_ 3 10 HT_ ?_; refine o_ 4 11 HT_ ?_
      refine on_ 5 (some 12) (bq_ 6 15) HT_ (fun K hK => ?_)
      refine goes_ Try.func52 (by kernel_rfl) rfl #[.int .i64 a2, .int .i64 0, .int .i64 32] (by rfl) rfl rfl (by (try simp only [List.map_toArray, List.map_cons, List.map_nil]); first | done | rfl) ?_
      with_reducible refine (impl_inRange.calls a2 0 32 true _ HI.out).mono ?_
      rintro e w' ⟨rfl, ⟨nd, rfl⟩⟩
      refine ⟨_, rfl, ?_⟩
      refine hK.out _ _ trivial (fun hHeld => ?_)
      clear hK K
      refine nn_ ?_
      have HBn := q_ (pw_below_drewN HB.out nd)
      clear HB
      have HB := HBn
      clear HBn
      generalize World.drewN _ nd = wc1 at HB hHeld ⊢
      clear hHeld
      refine o_ 6 13 HT_ ?_; refine o_ 7 14 HT_ ?_; refine o_ 8 15 HT_ ?_; refine o_ 11 18 HT_ ?_; refine o_ 13 20 HT_ ?_; refine o_ 16 23 HT_ ?_
      refine two_ (i := 9) (j := 14) (Ni := some 16) (Nj := some 21) (br_ [10, 1, 1, 1, 1, 2, 1, 4]) (br_ [9, 2, 1, 1, 2, 1, 1, 4]) rfl rfl rfl rfl (two_of HT_.out (by kernel_rfl)) (by decide) (by decide) (fun K hK => ?_) (fun K hK => ?_)
      · skip
        refine impl_IsClash.conv_step (by rfl) 9 22 5 _ a0 rfl rfl Try.underlying9 Try.underlying22 Try.underlying5 C3.out.1 ?_
        intro g0 c0 wv hC hl hb
        refine hK.out _ _ trivial (fun hHeld => ?_)
        clear hK K hHeld
        refine nn_ ?_
        have HBn := q_ (below_step HB.out hb)
        clear HB
        have HB := HBn
        clear HBn
        have HC0 := Aside0.mk hC
        have HL0 := Aside0.mk hl
        clear hC hl hb
        refine two_ (i := 10) (j := 14) (Ni := some 17) (Nj := some 21) (br_ [12, 1, 1, 2, 1, 4]) (br_ [10, 1, 1, 1, 2, 1, 1, 4]) rfl rfl rfl rfl (two_of HT_.out (by kernel_rfl)) (by decide) (by decide) (fun K hK => ?_) (fun K hK => ?_)
        · skip
          refine goes_ Try.func53 (by kernel_rfl) rfl #[.slice (some ⟨g0, 0, none⟩) a0.size c0] (by rfl) rfl rfl (by (try simp only [List.map_toArray, List.map_cons, List.map_nil]); first | done | rfl) ?_
          with_reducible refine (impl_IsClash.dig k a0 d0 _ _ _ HC0.out HL0.out H0.out).mono ?_
          rintro e wv ⟨rfl, hb⟩
          refine ⟨_, rfl, ?_⟩
          refine hK.out _ _ trivial (fun hHeld => ?_)
          clear hK K hHeld HC0 HL0
          refine nn_ ?_
          have HBn := q_ (below_step HB.out hb)
          clear HB
          have HB := HBn
          clear HBn hb
          refine o_ 12 19 HT_ ?_
          refine on_ 14 (some 21) (br_ [15, 1, 1, 4]) HT_ (fun K hK => ?_)
          refine impl_IsClash.conv_step (by rfl) 9 22 5 _ a1 rfl rfl Try.underlying9 Try.underlying22 Try.underlying5 C3.out.2 ?_
          intro g1 c1 wv hC hl hb
          refine hK.out _ _ trivial (fun hHeld => ?_)
          clear hK K hHeld
          refine nn_ ?_
          have HBn := q_ (below_step HB.out hb)
          clear HB
          have HB := HBn
          clear HBn
          have HC1 := Aside0.mk hC
          have HL1 := Aside0.mk hl
          clear hC hl hb
          refine on_ 15 (some 22) (bq_ 17 4) HT_ (fun K hK => ?_)
          refine goes_ Try.func53 (by kernel_rfl) rfl #[.slice (some ⟨g1, 0, none⟩) a1.size c1] (by rfl) rfl rfl (by (try simp only [List.map_toArray, List.map_cons, List.map_nil]); first | done | rfl) ?_
          with_reducible refine (impl_IsClash.dig k a1 d1 _ _ _ HC1.out HL1.out H1.out).mono ?_
          rintro e wv ⟨rfl, hb⟩
          refine ⟨_, rfl, ?_⟩
          refine hK.out _ _ trivial (fun hHeld => ?_)
          clear hK K hHeld HC1 HL1
          refine nn_ ?_
          have HBn := q_ (below_step HB.out hb)
          clear HB
          have HB := HBn
          clear HBn hb
          refine o_ 17 24 HT_ ?_; refine o_ 18 25 HT_ ?_; refine o_ 19 26 HT_ ?_; refine o_ 20 6 HT_ ?_
          refine done_ (done_of HT_.out (by kernel_rfl)) ?_
          try go_wp2
          go_ret
          exact ⟨by first | rfl | (simp; done) | simp [*], HB.out⟩
        · skip
          refine impl_IsClash.conv_step (by rfl) 9 22 5 _ a1 rfl rfl Try.underlying9 Try.underlying22 Try.underlying5 C3.out.2 ?_
          intro g1 c1 wv hC hl hb
          refine hK.out _ _ trivial (fun hHeld => ?_)
          clear hK K hHeld
          refine nn_ ?_
          have HCn := q_ (Kd.C_below HC0.out hb)
          clear HC0
          have HC0 := HCn
          clear HCn
          have HBn := q_ (below_step HB.out hb)
          clear HB
          have HB := HBn
          clear HBn
          have HC1 := Aside0.mk hC
          have HL1 := Aside0.mk hl
          clear hC hl hb
          refine on_ 10 (some 17) (br_ [12, 1, 2, 1, 1, 4]) HT_ (fun K hK => ?_)
          refine goes_ Try.func53 (by kernel_rfl) rfl #[.slice (some ⟨g0, 0, none⟩) a0.size c0] (by rfl) rfl rfl (by (try simp only [List.map_toArray, List.map_cons, List.map_nil]); first | done | rfl) ?_
          with_reducible refine (impl_IsClash.dig k a0 d0 _ _ _ HC0.out HL0.out H0.out).mono ?_
          rintro e wv ⟨rfl, hb⟩
          refine ⟨_, rfl, ?_⟩
          refine hK.out _ _ trivial (fun hHeld => ?_)
          clear hK K hHeld HC0 HL0
          refine nn_ ?_
          have HCn := q_ (Kd.C_below HC1.out hb)
          clear HC1
          have HC1 := HCn
          clear HCn
          have HBn := q_ (below_step HB.out hb)
          clear HB
          have HB := HBn
          clear HBn hb
          refine o_ 12 19 HT_ ?_
          refine on_ 15 (some 22) (bq_ 17 4) HT_ (fun K hK => ?_)
          refine goes_ Try.func53 (by kernel_rfl) rfl #[.slice (some ⟨g1, 0, none⟩) a1.size c1] (by rfl) rfl rfl (by (try simp only [List.map_toArray, List.map_cons, List.map_nil]); first | done | rfl) ?_
          with_reducible refine (impl_IsClash.dig k a1 d1 _ _ _ HC1.out HL1.out H1.out).mono ?_
          rintro e wv ⟨rfl, hb⟩
          refine ⟨_, rfl, ?_⟩
          refine hK.out _ _ trivial (fun hHeld => ?_)
          clear hK K hHeld HC1 HL1
          refine nn_ ?_
          have HBn := q_ (below_step HB.out hb)
          clear HB
          have HB := HBn
          clear HBn hb
          refine o_ 17 24 HT_ ?_; refine o_ 18 25 HT_ ?_; refine o_ 19 26 HT_ ?_; refine o_ 20 6 HT_ ?_
          refine done_ (done_of HT_.out (by kernel_rfl)) ?_
          try go_wp2
          go_ret
          exact ⟨by first | rfl | (simp; done) | simp [*], HB.out⟩
      · skip
        refine impl_IsClash.conv_step (by rfl) 9 22 5 _ a1 rfl rfl Try.underlying9 Try.underlying22 Try.underlying5 C3.out.2 ?_
        intro g1 c1 wv hC hl hb
        refine hK.out _ _ trivial (fun hHeld => ?_)
        clear hK K hHeld
        refine nn_ ?_
        have HBn := q_ (below_step HB.out hb)
        clear HB
        have HB := HBn
        clear HBn
        have HC1 := Aside0.mk hC
        have HL1 := Aside0.mk hl
        clear hC hl hb
        refine on_ 9 (some 16) (br_ [10, 1, 1, 1, 2, 1, 1, 4]) HT_ (fun K hK => ?_)
        refine impl_IsClash.conv_step (by rfl) 9 22 5 _ a0 rfl rfl Try.underlying9 Try.underlying22 Try.underlying5 C3.out.1 ?_
        intro g0 c0 wv hC hl hb
        refine hK.out _ _ trivial (fun hHeld => ?_)
        clear hK K hHeld
        refine nn_ ?_
        have HCn := q_ (Kd.C_below HC1.out hb)
        clear HC1
        have HC1 := HCn
        clear HCn
        have HBn := q_ (below_step HB.out hb)
        clear HB
        have HB := HBn
        clear HBn
        have HC0 := Aside0.mk hC
        have HL0 := Aside0.mk hl
        clear hC hl hb
        refine on_ 10 (some 17) (br_ [12, 1, 2, 1, 1, 4]) HT_ (fun K hK => ?_)
        refine goes_ Try.func53 (by kernel_rfl) rfl #[.slice (some ⟨g0, 0, none⟩) a0.size c0] (by rfl) rfl rfl (by (try simp only [List.map_toArray, List.map_cons, List.map_nil]); first | done | rfl) ?_
        with_reducible refine (impl_IsClash.dig k a0 d0 _ _ _ HC0.out HL0.out H0.out).mono ?_
        rintro e wv ⟨rfl, hb⟩
        refine ⟨_, rfl, ?_⟩
        refine hK.out _ _ trivial (fun hHeld => ?_)
        clear hK K hHeld HC0 HL0
        refine nn_ ?_
        have HCn := q_ (Kd.C_below HC1.out hb)
        clear HC1
        have HC1 := HCn
        clear HCn
        have HBn := q_ (below_step HB.out hb)
        clear HB
        have HB := HBn
        clear HBn hb
        refine o_ 12 19 HT_ ?_
        refine on_ 15 (some 22) (bq_ 17 4) HT_ (fun K hK => ?_)
        refine goes_ Try.func53 (by kernel_rfl) rfl #[.slice (some ⟨g1, 0, none⟩) a1.size c1] (by rfl) rfl rfl (by (try simp only [List.map_toArray, List.map_cons, List.map_nil]); first | done | rfl) ?_
        with_reducible refine (impl_IsClash.dig k a1 d1 _ _ _ HC1.out HL1.out H1.out).mono ?_
        rintro e wv ⟨rfl, hb⟩
        refine ⟨_, rfl, ?_⟩
        refine hK.out _ _ trivial (fun hHeld => ?_)
        clear hK K hHeld HC1 HL1
        refine nn_ ?_
        have HBn := q_ (below_step HB.out hb)
        clear HB
        have HB := HBn
        clear HBn hb
        refine o_ 17 24 HT_ ?_; refine o_ 18 25 HT_ ?_; refine o_ 19 26 HT_ ?_; refine o_ 20 6 HT_ ?_
        refine done_ (done_of HT_.out (by kernel_rfl)) ?_
        try go_wp2
        go_ret
        exact ⟨by first | rfl | (simp; done) | simp [*], HB.out⟩
    · rw [if_neg c2] at h
      obtain rfl := Option.some.inj h
      have hin : impl_inRange.f a2 0 32 = some false := by
       unfold impl_inRange.f
       by_cases c5 : a2 ≥ 0
       rotate_left
       · first | (exfalso; omega) | rw [if_neg c5]
       rw [if_pos c5]
       congr 1
       first | exact decide_eq_true (by omega) | exact decide_eq_false (by omega)
      have HI := Aside0.mk hin
      clear hin
      clear h c2
      go_enter Try.func11, Try.ntmps11
      go_wp2
      have HB := q_ (below_drew1 (Below.refl w.heap.size w))
      refine start_ (n := 21) (S := fun w' => True) (ds := []) (bq_ 0 21) (by kernel_rfl) rfl rfl trivial (fun hHeld => ?_); refine with_tabW impl_IsClash.tab1 impl_IsClash.bits1 (fun HT_ HW_ => ?_)
      generalize w.drew = w0 at HB hHeld ⊢
      clear hHeld
      refine o_ 0 7 HT_ ?_; refine o_ 1 8 HT_ ?_; refine o_ 2 9 HT_ ?_; refine o_ 3 10 HT_ ?_; refine o_ 4 11 HT_ ?_
      refine on_ 5 (some 12) (bq_ 6 15) HT_ (fun K hK => ?_)
      refine goes_ Try.func52 (by kernel_rfl) rfl #[.int .i64 a2, .int .i64 0, .int .i64 32] (by rfl) rfl rfl (by (try simp only [List.map_toArray, List.map_cons, List.map_nil]); first | done | rfl) ?_
      with_reducible refine (impl_inRange.calls a2 0 32 false _ HI.out).mono ?_
      rintro e w' ⟨rfl, ⟨nd, rfl⟩⟩
      refine ⟨_, rfl, ?_⟩
      refine hK.out _ _ trivial (fun hHeld => ?_)
      clear hK K
      refine nn_ ?_
      have HBn := q_ (pw_below_drewN HB.out nd)
      clear HB
      have HB := HBn
      clear HBn
      generalize World.drewN _ nd = wc2 at HB hHeld ⊢
      clear hHeld
      refine o_ 6 13 HT_ ?_; refine o_ 7 14 HT_ ?_; refine u_ 8 15 HT_ ?_; refine u_ 9 16 HT_ ?_; refine u_ 10 17 HT_ ?_; refine u_ 11 18 HT_ ?_; refine u_ 12 19 HT_ ?_; refine u_ 13 20 HT_ ?_; refine u_ 14 21 HT_ ?_; refine u_ 15 22 HT_ ?_; refine u_ 16 23 HT_ ?_; refine u_ 17 24 HT_ ?_; refine u_ 18 25 HT_ ?_; refine o_ 19 26 HT_ ?_; refine o_ 20 6 HT_ ?_
      refine done_ (done_of HT_.out (by kernel_rfl)) ?_
      try go_wp2
      go_ret
      exact ⟨by first | rfl | (simp; done) | simp [*], HB.out⟩


/-! ###  impl_isFull: function 44 -/
def impl_isFull.f (k : Nat) (a0 : ByteArray) (a1 : ByteArray) : Option (Bool) := (impl_IsClash.f k a0 a1 32).bind fun t649 => (some t649)
set_option maxHeartbeats 8000000 in
set_option maxRecDepth 100000 in
theorem impl_isFull.calls (k : Nat) (a0 : ByteArray) (a1 : ByteArray) (r : Bool) (w : World) (h : impl_isFull.f k a0 a1 = some r) :
  Calls Try.prog 44 #[.string a0, .string a1] w fun e w' => e = .returned (.bool r) ∧ Below w.heap.size w w' := by
  have HB := q_ (Below.refl w.heap.size w)
  have H := h
  clear h
  unfold impl_isFull.f at H
  obtain ⟨t649, A3, H⟩ := bo_ H
  obtain rfl := Option.some.inj H
  go_enter Try.func44, Try.ntmps44
  go_wp2_with (first | ((with_reducible refine gate_callee (f := 11) rfl ?_); refine gl_ (some 7) Try.func11 #[.string a0, .string a1, .int .i64 32] rfl al_ ?_; (with_reducible refine (impl_IsClash.calls k a0 a1 32 t649 _ A3.out).mono ?_); rintro e w4 ⟨rfl, hb⟩; refine ⟨_, rfl, ?_⟩; replace HB := q_ (below_step (be_ HB.out) hb); (try clear hb)))
  go_ret
  exact ⟨rf_, be_ HB.out⟩

end Go.Proofs.Ythkaifddpjjmaaa.P
