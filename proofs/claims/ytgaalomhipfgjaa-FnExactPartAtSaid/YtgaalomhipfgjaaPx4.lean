-- Written by wip/xp/xp.py over the kit's print; Lean checks it.
import Derived.Test.YtgaalomhipfgjaaPx0
import Derived.Test.YtgaalomhipfgjaaPx1
import Derived.Test.YtgaalomhipfgjaaPx2
import Derived.Test.YtgaalomhipfgjaaPx3
namespace Go.Proofs.Ytgaalomhipfgjaa.P
open Go.RowKit Go.Proofs.YtgaalomhipfgjaaW.PrintWords Go.Proofs.YtgaalomhipfgjaaW.PrintLast Go.Proofs.YtgaalomhipfgjaaW.PrintMore
attribute [local go_sem] max2_int min2_int max_two min_two max_three min_three max_four min_four   -- for this text's walks alone
set_option linter.unusedVariables false
set_option linter.unusedSimpArgs false

/-! ###  impl_pathOf: function 57 -/
def impl_pathOf.f : Nat → List (S26) → Int → Option (List ByteArray)
  | 0, _, _ => none
  | k + 1, l0, a1 => if (l0.length : Int) = 1 then (some ([] : List ByteArray)) else ((impl_half.f k (l0.length : Int)).bind fun t230 => (if a1 < t230 then (if 0 ≤ t230 then (if t230 ≤ (l0.length : Int) then ((impl_pathOf.f k (l0.take (t230 : Int).toNat) a1).bind fun t235 => ((impl_innerOf.f k (l0.drop (t230 : Int).toNat)).bind fun t242 => (if t235.length < 8796093022208 then (some (t235 ++ [t242])) else (none)))) else (none)) else (none)) else (if 0 ≤ t230 then (if t230 ≤ (l0.length : Int) then ((impl_pathOf.f k (l0.drop (t230 : Int).toNat) (wrap64 (a1 - t230))).bind fun t250 => ((impl_innerOf.f k (l0.take (t230 : Int).toNat)).bind fun t257 => (if t250.length < 8796093022208 then (some (t250 ++ [t257])) else (none)))) else (none)) else (none))))
def impl_pathOf.T5 : Bool × List (List Nat × List Nat) := (true, [([], []), ([], []), ([0, 1], [0, 1]), ([], []), ([2, 3], [2, 3]), ([], []), ([], []), ([5, 6], [5, 6]), ([7, 4], [7]), ([8], [8]), ([4, 9, 8], [4, 9]), ([10, 10, 0, 1, 2, 3, 4, 5, 6, 7, 8, 9, 10], [10])])
def impl_pathOf.B5 : List Nat := [0, 0, 3, 0, 15, 0, 0, 96, 255, 511, 1023, 2047]
theorem impl_pathOf.tab5 : rtab .any (opsOf Try.f57 5) = impl_pathOf.T5 := by kernel_rfl
theorem impl_pathOf.bits5 : waitsOk impl_pathOf.T5.2 impl_pathOf.B5 = true := by kernel_rfl
def impl_pathOf.T6 : Bool × List (List Nat × List Nat) := (true, [([], []), ([], []), ([0, 1], [0, 1]), ([], []), ([], []), ([3, 4], [3, 4]), ([2, 5], [2, 5]), ([], []), ([], []), ([7, 8], [7, 8]), ([9, 6], [9]), ([10], [10]), ([6, 11, 10], [6, 11]), ([12, 12, 0, 1, 2, 3, 4, 5, 6, 7, 8, 9, 10, 11, 12], [12])])
def impl_pathOf.B6 : List Nat := [0, 0, 3, 0, 0, 24, 63, 0, 0, 384, 1023, 2047, 4095, 8191]
theorem impl_pathOf.tab6 : rtab .any (opsOf Try.f57 6) = impl_pathOf.T6 := by kernel_rfl
theorem impl_pathOf.bits6 : waitsOk impl_pathOf.T6.2 impl_pathOf.B6 = true := by kernel_rfl
set_option maxHeartbeats 8000000 in
set_option maxRecDepth 100000 in
theorem impl_pathOf.calls (k : Nat) : ∀ (A0 : Option Addr) (c0 : Nat) (l0 : List (S26)) (a1 : Int) (r : List ByteArray) (w : World) (hr0 : Kd.C k26 w A0 l0.length l0) (hc0 : l0.length ≤ c0) (h : impl_pathOf.f k l0 a1 = some r),
  Calls Try.prog 57 #[.slice A0 l0.length c0, .int .i64 a1] w fun e w' => ∃ v0_ : Value, e = .returned (v0_) ∧ Kd.R Kd.string 9 w' w.heap.size (fun _ => True) v0_ r ∧ Below w.heap.size w w' := by
  induction k using Nat.strongRecOn with
  | _ k ih =>
  intro A0 c0 l0 a1 r w hr0 hc0 h
  cases k with
  | zero => exact absurd h (by simp [impl_pathOf.f])
  | succ k =>
  simp only [impl_pathOf.f] at h
  have HR0 := Aside0.mk hr0
  have HC0 := Aside0.mk hc0
  clear hr0 hc0
  have HB := Aside0.mk (Below.refl w.heap.size w)
  have H : (if (l0.length : Int) = 1 then (some ([] : List ByteArray)) else ((impl_half.f k (l0.length : Int)).bind fun t230 => (if a1 < t230 then (if 0 ≤ t230 then (if t230 ≤ (l0.length : Int) then ((impl_pathOf.f k (l0.take (t230 : Int).toNat) a1).bind fun t235 => ((impl_innerOf.f k (l0.drop (t230 : Int).toNat)).bind fun t242 => (if t235.length < 8796093022208 then (some (t235 ++ [t242])) else (none)))) else (none)) else (none)) else (if 0 ≤ t230 then (if t230 ≤ (l0.length : Int) then ((impl_pathOf.f k (l0.drop (t230 : Int).toNat) (wrap64 (a1 - t230))).bind fun t250 => ((impl_innerOf.f k (l0.take (t230 : Int).toNat)).bind fun t257 => (if t250.length < 8796093022208 then (some (t250 ++ [t257])) else (none)))) else (none)) else (none))))) = some r := h
  clear h
  by_cases c3 : (l0.length : Int) = 1
  · rw [if_pos c3] at H
    have c3b0 : ((l0.length : Int) == 1) = true := beq_iff_eq.mpr c3
    have c3b1 : ((l0.length : Int) != 1) = false := bne_eq_false_iff_eq.mpr c3
    clear c3
    obtain rfl := Option.some.inj H
    go_enter Try.func57, Try.ntmps57
    go_wp2
    go_ret
    exact ⟨_, by first | rfl | (simp [errW_none, errW_some] <;> rfl) | (simp [*, errW_none, errW_some] <;> rfl), by first | exact Kd.R_nil _ _ _ _ _ | exact Kd.N_nil _ _ _ _ _ | exact Kd.V_nil _ _ _ _ _ | exact Kd.Q_nil _ _ _ _ _ | exact Kd.S_nil _ _ _ _ _, be_ HB.out⟩
  · rw [if_neg c3] at H
    have c3b0 : ((l0.length : Int) == 1) = false := beq_eq_false_iff_ne.mpr c3
    have c3b1 : ((l0.length : Int) != 1) = true := bne_iff_ne.mpr c3
    replace H := Option.bind_eq_some_iff.mp H
    obtain ⟨t230, A40, H⟩ := H
    have A4 := Aside0.mk A40
    clear A40
    by_cases c5 : a1 < t230
    · rw [if_pos c5] at H
      have c5b0 : decide (a1 < t230) = true := decide_eq_true c5
      clear c5
      by_cases c6 : 0 ≤ t230
      rotate_left
      · rw [if_neg c6] at H; exact absurd H (by simp)
      rw [if_pos c6] at H
      have c6b0 := eq_true c6
      have c6b1 : decide (0 ≤ t230) = true := decide_eq_true c6
      clear c6
      by_cases c7 : t230 ≤ (l0.length : Int)
      rotate_left
      · rw [if_neg c7] at H; exact absurd H (by simp)
      rw [if_pos c7] at H
      have c7b0 := eq_true c7
      have c7b1 : decide (t230 ≤ (l0.length : Int)) = true := decide_eq_true c7
      clear c7
      obtain ⟨y231, hy231⟩ : ∃ y_ : List (S26), y_ = (l0.take (t230 : Int).toNat) := ⟨_, rfl⟩
      replace H : ((impl_pathOf.f k y231 a1).bind fun t235 => ((impl_innerOf.f k (l0.drop (t230 : Int).toNat)).bind fun t242 => (if t235.length < 8796093022208 then (some (t235 ++ [t242])) else (none)))) = some r := by first | (rw [hy231]; with_reducible exact H) | (have H2_ := (Option.bind_some _ _).symm.trans H; rw [hy231]; with_reducible exact H2_) | (have H2_ := (Option.bind_some _ _).symm.trans H; with_reducible exact H2_) | with_reducible exact H | (rw [hy231]; exact H) | exact H
      have Ny231 := Aside0.mk hy231
      clear hy231
      replace H := Option.bind_eq_some_iff.mp H
      obtain ⟨t235, A80, H⟩ := H
      have A8 := Aside0.mk A80
      clear A80
      have c9b0 := eq_true (of_decide_eq_true (by first | (with_reducible assumption) | assumption) : 0 ≤ t230)
      have c10b0 := eq_true (of_decide_eq_true (by first | (with_reducible assumption) | assumption) : t230 ≤ (l0.length : Int))
      obtain ⟨y238, hy238⟩ : ∃ y_ : List (S26), y_ = (l0.drop (t230 : Int).toNat) := ⟨_, rfl⟩
      replace H : ((impl_innerOf.f k y238).bind fun t242 => (if t235.length < 8796093022208 then (some (t235 ++ [t242])) else (none))) = some r := by first | (rw [hy238]; with_reducible exact H) | (have H2_ := (Option.bind_some _ _).symm.trans H; rw [hy238]; with_reducible exact H2_) | (have H2_ := (Option.bind_some _ _).symm.trans H; with_reducible exact H2_) | with_reducible exact H | (rw [hy238]; exact H) | exact H
      have Ny238 := Aside0.mk hy238
      clear hy238
      replace H := Option.bind_eq_some_iff.mp H
      obtain ⟨t242, A110, H⟩ := H
      have A11 := Aside0.mk A110
      clear A110
      by_cases c12 : t235.length < 8796093022208
      rotate_left
      · rw [if_neg c12] at H; exact absurd H (by simp)
      rw [if_pos c12] at H
      have LMc12 := Aside0.mk c12
      clear c12
      obtain ⟨y243, hy243⟩ : ∃ y_ : List ByteArray, y_ = (t235 ++ [t242]) := ⟨_, rfl⟩
      replace H : (some y243) = some r := by first | (rw [hy243]; with_reducible exact H) | (have H2_ := (Option.bind_some _ _).symm.trans H; rw [hy243]; with_reducible exact H2_) | (have H2_ := (Option.bind_some _ _).symm.trans H; with_reducible exact H2_) | with_reducible exact H | (rw [hy243]; exact H) | exact H
      have Ny243 := Aside0.mk hy243
      clear hy243
      obtain rfl := Option.some.inj H
      go_enter Try.func57, Try.ntmps57
      try go_wp2_with (first | ((with_reducible refine gate_callee (f := 100) rfl ?_); refine goesL_ (some 11) rfl rfl Try.func100 (by kernel_rfl) rfl #[.int .i64 (l0.length : Int)] rfl al_ ?_; (with_reducible refine (impl_half.calls k (l0.length : Int) t230 _ A4.out).mono ?_); rintro e w' ⟨rfl, ⟨nd, rfl⟩⟩; refine ⟨_, rfl, ?_⟩))
      have n0_ := Aside0.mk (below_drew1 (pw_below_drewN HB.out nd))
      clear HB
      have HB := n0_
      clear n0_
      have q14 : (t230 : Int) ≤ ((l0.length : Int) : Int) := of_decide_eq_true (by first | (with_reducible assumption) | assumption)
      obtain ⟨i014, hi014, _, hsz14, _⟩ := info_parts info26
      have hroom14 : l0.length ≤ c0 := HC0.out
      have hC14 : Kd.C k26 _ A0 l0.length l0 := HR0.out
      have hcut14 := cut_to (P := Try.prog) 24 26 .i64 Try.underlying24 hi014 A0 l0.length c0 t230 (of_decide_eq_true (by first | (with_reducible assumption) | assumption)) q14 hroom14
      have hr14 := Kd.C_take (m := (t230 : Int).toNat) hC14 (by omega)
      have hy14 : y231.length = (t230 : Int).toNat := (by rw [Ny231.out, List.length_take]; omega)
      rw [← Ny231.out] at hr14
      rw [← hy14] at hcut14
      have HR234 := Aside0.mk hr14
      have HC234 := Aside0.mk (show y231.length ≤ c0 from by omega)
      clear hr14 hC14 hroom14 hi014 hsz14
      have KY14 := Aside0.mk hy14
      clear hy14
      replace q14 := eq_true q14
      have q15 : (t230 : Int) ≤ ((l0.length : Int) : Int) := of_decide_eq_true (by first | (with_reducible assumption) | assumption)
      obtain ⟨i015, hi015, _, hsz15, _⟩ := info_parts info26
      have hroom15 : l0.length ≤ c0 := HC0.out
      have hC15 : Kd.C k26 _ A0 l0.length l0 := HR0.out
      have q015 : (0 : Int) ≤ (t230 : Int) := of_decide_eq_true (by first | (with_reducible assumption) | assumption)
      have hcut15 := cut_from (P := Try.prog) 24 26 .i64 Try.underlying24 hi015 2 hsz15 A0 l0.length c0 t230 q015 q15
      have hr15 := Kd.C_drop (m := (t230 : Int).toNat) (c := c0) hC15 (by omega) hroom15
      obtain ⟨A15, hA15⟩ : ∃ A1, A1 = (if c0 = (t230 : Int).toNat then A0 else (A0 : Option Addr).map (·.add ((t230 : Int).toNat * 2))) := ⟨_, rfl⟩
      obtain ⟨c15, hc15⟩ : ∃ c1, c1 = c0 - (t230 : Int).toNat := ⟨_, rfl⟩
      have hy15 : y238.length = l0.length - (t230 : Int).toNat := (by rw [Ny238.out, List.length_drop] <;> omega)
      rw [show (l0).drop (t230 : Int).toNat = y238 from Ny238.out.symm] at hr15
      replace hr15 : Kd.C k26 _ A15 y238.length y238 := (by rw [hA15]; exact hr15)
      rw [← hy15, ← hA15, ← hc15] at hcut15
      have HR241 := Aside0.mk hr15
      have HC241 := Aside0.mk (show y238.length ≤ c15 from by rw [hy15, hc15]; exact Nat.sub_le_sub_right hroom15 _)
      clear hr15 hC15 hroom15 hi015 hsz15 hc15
      have KY15 := Aside0.mk hy15
      have KA15 := Aside0.mk hA15
      clear hy15 hA15
      replace q15 := eq_true q15
      refine start_ (n := 12) (S := fun w' => True) (ds := []) (bq_ 0 12) (by kernel_rfl) rfl rfl trivial (fun hHeld => ?_); refine with_tabW impl_pathOf.tab5 impl_pathOf.bits5 (fun HT_ HW_ => ?_)
      generalize (World.drewN w nd).drew = w13 at HB HR234 HR241 hHeld ⊢
      refine pu_ 0 (some 15) (bq_ 1 11) HT_ ?_
      refine pu_ 1 (some 16) (bq_ 2 10) HT_ ?_
      refine pu_ 2 (some 17) (bq_ 3 9) HT_ ?_
      refine pu_ 3 (some 18) (bq_ 4 8) HT_ ?_
      refine pu_ 5 (some 20) #[true, true, true, true, false, true, false, false, false, false, false, false] HT_ ?_
      refine pu_ 6 (some 21) #[true, true, true, true, false, true, true, false, false, false, false, false] HT_ ?_
      refine pu_ 7 (some 22) #[true, true, true, true, false, true, true, true, false, false, false, false] HT_ ?_
      refine on_ 4 (some 19) (bq_ 8 4) HT_ (fun K hK => ?_)
      refine goes_ Try.func57 (by kernel_rfl) rfl #[.slice A0 y231.length c0, .int .i64 a1] (by rfl) rfl rfl al_ ?_
      with_reducible refine (ih k (by omega) _ _ y231 a1 t235 _ ?side1 ?side2 A8.out).mono ?_
      (case side1 => exact kc_ (Kd.C_below HR234.out HB.out))
      (case side2 => exact HC234.out)
      rintro e w16 ⟨v236, rfl, ho0, hb⟩
      refine ⟨_, rfl, ?_⟩
      have n0_ := Aside0.mk (Kd.R_lower ho0 (below_size (be_ HB.out)))
      have n1_ := Aside0.mk (below_step (be_ HB.out) hb)
      clear HB
      have HO237 := n0_
      have HB := n1_
      clear n0_ n1_
      (try clear hb)
      (try clear hb2)
      (try clear hk)
      (try clear hi)
      (try clear ho0)
      refine hK.out _ _ trivial (fun hHeld => ?_)
      clear hK K
      refine nm_ ?_
      refine on_ 8 (some 23) (bq_ 9 3) HT_ (fun K hK => ?_)
      refine goes_ Try.func60 (by kernel_rfl) rfl #[.slice A15 y238.length c15] (by rfl) rfl rfl al_ ?_
      with_reducible refine (impl_innerOf.calls k _ _ y238 t242 _ ?side1 ?side2 A11.out).mono ?_
      (case side1 => exact kc_ (Kd.C_below HR241.out HB.out))
      (case side2 => exact HC241.out)
      rintro e w17 ⟨rfl, hb⟩
      refine ⟨_, rfl, ?_⟩
      have n0_ := Aside0.mk (Kd.R_below (kr_ HO237.out) hb)
      have n1_ := Aside0.mk (below_step (be_ HB.out) hb)
      clear HO237
      clear HB
      have HO237 := n0_
      have HB := n1_
      clear n0_ n1_
      (try clear hb)
      (try clear hb2)
      (try clear hk)
      (try clear hi)
      refine hK.out _ _ trivial (fun hHeld => ?_)
      clear hK K
      refine nm_ ?_
      refine on_ 9 (some 24) (bq_ 10 2) HT_ (fun K hK => ?_)
      refine value_ (w1 := ?_) (v := ?_) (by rfl) rfl ?_ ?_
      rotate_left 2
      · go_simp
        constructor
        · rfl
        · rfl
      refine hK.out _ _ trivial (fun hHeld => ?_)
      clear hK K
      refine nm_ ?_
      refine on_ 10 (some 25) (bq_ 11 1) HT_ (fun K hK => ?_)
      refine Kd.R_append_step Kd.string (w0 := w) w.heap.size (by rfl) (.tmp 19) (.tmp 24) 27 9 (.string ⟨#[]⟩) 16 rfl Try.underlying27 info9 rfl (by decide) (by omega) v236 t235 t242 [.string t242] (fun _ => True) (fun _ => False) rfl rfl ?aP (fun _ hk => hk.elim) ?aF ?aO ?aB ?aS ?aL ?_
      (case aP => exact rfl)
      (case aB => exact (be_ HB.out))
      (case aF => exact (fun _ _ => trivial))
      (case aO => exact (kr_ HO237.out))
      (case aS => exact (below_size (be_ HB.out)))
      (case aL => have := LMc12.out; omega)
      intro v244 w18 ho hb hg hat
      rw [← Ny243.out] at ho
      have n0_ := Aside0.mk (hb)
      have n1_ := Aside0.mk (ho)
      clear HB
      clear HO237
      have HB := n0_
      have HO245 := n1_
      clear n0_ n1_
      clear ho hb hg hat
      refine hK.out _ _ trivial (fun hHeld => ?_)
      clear hK K
      refine nm_ ?_
      refine pu_ 11 (some 4) (bq_ 12 0) HT_ ?_
      refine done_ (done_of HT_.out (by kernel_rfl)) ?_
      try go_wp2
      go_ret
      exact ⟨_, by first | rfl | (simp [errW_none, errW_some] <;> rfl) | (simp [*, errW_none, errW_some] <;> rfl), by (with_reducible repeat (first | apply Kd.R_alloc | apply Kd.R_drewN | apply Kd.R_drew)); exact HO245.out, be_ HB.out⟩
    · rw [if_neg c5] at H
      have c5b0 : decide (a1 < t230) = false := decide_eq_false c5
      clear c5
      by_cases c19 : 0 ≤ t230
      rotate_left
      · rw [if_neg c19] at H; exact absurd H (by simp)
      rw [if_pos c19] at H
      have c19b0 := eq_true c19
      have c19b1 : decide (0 ≤ t230) = true := decide_eq_true c19
      clear c19
      by_cases c20 : t230 ≤ (l0.length : Int)
      rotate_left
      · rw [if_neg c20] at H; exact absurd H (by simp)
      rw [if_pos c20] at H
      have c20b0 := eq_true c20
      have c20b1 : decide (t230 ≤ (l0.length : Int)) = true := decide_eq_true c20
      clear c20
      obtain ⟨y246, hy246⟩ : ∃ y_ : List (S26), y_ = (l0.drop (t230 : Int).toNat) := ⟨_, rfl⟩
      replace H : ((impl_pathOf.f k y246 (wrap64 (a1 - t230))).bind fun t250 => ((impl_innerOf.f k (l0.take (t230 : Int).toNat)).bind fun t257 => (if t250.length < 8796093022208 then (some (t250 ++ [t257])) else (none)))) = some r := by first | (rw [hy246]; with_reducible exact H) | (have H2_ := (Option.bind_some _ _).symm.trans H; rw [hy246]; with_reducible exact H2_) | (have H2_ := (Option.bind_some _ _).symm.trans H; with_reducible exact H2_) | with_reducible exact H | (rw [hy246]; exact H) | exact H
      have Ny246 := Aside0.mk hy246
      clear hy246
      replace H := Option.bind_eq_some_iff.mp H
      obtain ⟨t250, A210, H⟩ := H
      have A21 := Aside0.mk A210
      clear A210
      have c22b0 := eq_true (of_decide_eq_true (by first | (with_reducible assumption) | assumption) : 0 ≤ t230)
      have c23b0 := eq_true (of_decide_eq_true (by first | (with_reducible assumption) | assumption) : t230 ≤ (l0.length : Int))
      obtain ⟨y253, hy253⟩ : ∃ y_ : List (S26), y_ = (l0.take (t230 : Int).toNat) := ⟨_, rfl⟩
      replace H : ((impl_innerOf.f k y253).bind fun t257 => (if t250.length < 8796093022208 then (some (t250 ++ [t257])) else (none))) = some r := by first | (rw [hy253]; with_reducible exact H) | (have H2_ := (Option.bind_some _ _).symm.trans H; rw [hy253]; with_reducible exact H2_) | (have H2_ := (Option.bind_some _ _).symm.trans H; with_reducible exact H2_) | with_reducible exact H | (rw [hy253]; exact H) | exact H
      have Ny253 := Aside0.mk hy253
      clear hy253
      replace H := Option.bind_eq_some_iff.mp H
      obtain ⟨t257, A240, H⟩ := H
      have A24 := Aside0.mk A240
      clear A240
      by_cases c25 : t250.length < 8796093022208
      rotate_left
      · rw [if_neg c25] at H; exact absurd H (by simp)
      rw [if_pos c25] at H
      have LMc25 := Aside0.mk c25
      clear c25
      obtain ⟨y258, hy258⟩ : ∃ y_ : List ByteArray, y_ = (t250 ++ [t257]) := ⟨_, rfl⟩
      replace H : (some y258) = some r := by first | (rw [hy258]; with_reducible exact H) | (have H2_ := (Option.bind_some _ _).symm.trans H; rw [hy258]; with_reducible exact H2_) | (have H2_ := (Option.bind_some _ _).symm.trans H; with_reducible exact H2_) | with_reducible exact H | (rw [hy258]; exact H) | exact H
      have Ny258 := Aside0.mk hy258
      clear hy258
      obtain rfl := Option.some.inj H
      go_enter Try.func57, Try.ntmps57
      try go_wp2_with (first | ((with_reducible refine gate_callee (f := 100) rfl ?_); refine goesL_ (some 11) rfl rfl Try.func100 (by kernel_rfl) rfl #[.int .i64 (l0.length : Int)] rfl al_ ?_; (with_reducible refine (impl_half.calls k (l0.length : Int) t230 _ A4.out).mono ?_); rintro e w' ⟨rfl, ⟨nd, rfl⟩⟩; refine ⟨_, rfl, ?_⟩))
      have n0_ := Aside0.mk (below_drew1 (pw_below_drewN HB.out nd))
      clear HB
      have HB := n0_
      clear n0_
      have q27 : (t230 : Int) ≤ ((l0.length : Int) : Int) := of_decide_eq_true (by first | (with_reducible assumption) | assumption)
      obtain ⟨i027, hi027, _, hsz27, _⟩ := info_parts info26
      have hroom27 : l0.length ≤ c0 := HC0.out
      have hC27 : Kd.C k26 _ A0 l0.length l0 := HR0.out
      have q027 : (0 : Int) ≤ (t230 : Int) := of_decide_eq_true (by first | (with_reducible assumption) | assumption)
      have hcut27 := cut_from (P := Try.prog) 24 26 .i64 Try.underlying24 hi027 2 hsz27 A0 l0.length c0 t230 q027 q27
      have hr27 := Kd.C_drop (m := (t230 : Int).toNat) (c := c0) hC27 (by omega) hroom27
      obtain ⟨A27, hA27⟩ : ∃ A1, A1 = (if c0 = (t230 : Int).toNat then A0 else (A0 : Option Addr).map (·.add ((t230 : Int).toNat * 2))) := ⟨_, rfl⟩
      obtain ⟨c27, hc27⟩ : ∃ c1, c1 = c0 - (t230 : Int).toNat := ⟨_, rfl⟩
      have hy27 : y246.length = l0.length - (t230 : Int).toNat := (by rw [Ny246.out, List.length_drop] <;> omega)
      rw [show (l0).drop (t230 : Int).toNat = y246 from Ny246.out.symm] at hr27
      replace hr27 : Kd.C k26 _ A27 y246.length y246 := (by rw [hA27]; exact hr27)
      rw [← hy27, ← hA27, ← hc27] at hcut27
      have HR249 := Aside0.mk hr27
      have HC249 := Aside0.mk (show y246.length ≤ c27 from by rw [hy27, hc27]; exact Nat.sub_le_sub_right hroom27 _)
      clear hr27 hC27 hroom27 hi027 hsz27 hc27
      have KY27 := Aside0.mk hy27
      have KA27 := Aside0.mk hA27
      clear hy27 hA27
      replace q27 := eq_true q27
      have q28 : (t230 : Int) ≤ ((l0.length : Int) : Int) := of_decide_eq_true (by first | (with_reducible assumption) | assumption)
      obtain ⟨i028, hi028, _, hsz28, _⟩ := info_parts info26
      have hroom28 : l0.length ≤ c0 := HC0.out
      have hC28 : Kd.C k26 _ A0 l0.length l0 := HR0.out
      have hcut28 := cut_to (P := Try.prog) 24 26 .i64 Try.underlying24 hi028 A0 l0.length c0 t230 (of_decide_eq_true (by first | (with_reducible assumption) | assumption)) q28 hroom28
      have hr28 := Kd.C_take (m := (t230 : Int).toNat) hC28 (by omega)
      have hy28 : y253.length = (t230 : Int).toNat := (by rw [Ny253.out, List.length_take]; omega)
      rw [← Ny253.out] at hr28
      rw [← hy28] at hcut28
      have HR256 := Aside0.mk hr28
      have HC256 := Aside0.mk (show y253.length ≤ c0 from by omega)
      clear hr28 hC28 hroom28 hi028 hsz28
      have KY28 := Aside0.mk hy28
      clear hy28
      replace q28 := eq_true q28
      refine start_ (n := 14) (S := fun w' => True) (ds := []) (bq_ 0 14) (by kernel_rfl) rfl rfl trivial (fun hHeld => ?_); refine with_tabW impl_pathOf.tab6 impl_pathOf.bits6 (fun HT_ HW_ => ?_)
      generalize (World.drewN w nd).drew = w26 at HB HR249 HR256 hHeld ⊢
      refine pu_ 0 (some 26) (bq_ 1 13) HT_ ?_
      refine pu_ 1 (some 27) (bq_ 2 12) HT_ ?_
      refine pu_ 2 (some 28) (bq_ 3 11) HT_ ?_
      refine pu_ 3 (some 29) (bq_ 4 10) HT_ ?_
      refine pu_ 4 (some 30) (bq_ 5 9) HT_ ?_
      refine pu_ 5 (some 31) (bq_ 6 8) HT_ ?_
      refine pu_ 7 (some 33) #[true, true, true, true, true, true, false, true, false, false, false, false, false, false] HT_ ?_
      refine pu_ 8 (some 34) #[true, true, true, true, true, true, false, true, true, false, false, false, false, false] HT_ ?_
      refine pu_ 9 (some 35) #[true, true, true, true, true, true, false, true, true, true, false, false, false, false] HT_ ?_
      refine on_ 6 (some 32) (bq_ 10 4) HT_ (fun K hK => ?_)
      refine goes_ Try.func57 (by kernel_rfl) rfl #[.slice A27 y246.length c27, .int .i64 (wrap64 (a1 - t230))] (by rfl) rfl rfl al_ ?_
      with_reducible refine (ih k (by omega) _ _ y246 (wrap64 (a1 - t230)) t250 _ ?side1 ?side2 A21.out).mono ?_
      (case side1 => exact kc_ (Kd.C_below HR249.out HB.out))
      (case side2 => exact HC249.out)
      rintro e w29 ⟨v251, rfl, ho0, hb⟩
      refine ⟨_, rfl, ?_⟩
      have n0_ := Aside0.mk (Kd.R_lower ho0 (below_size (be_ HB.out)))
      have n1_ := Aside0.mk (below_step (be_ HB.out) hb)
      clear HB
      have HO252 := n0_
      have HB := n1_
      clear n0_ n1_
      (try clear hb)
      (try clear hb2)
      (try clear hk)
      (try clear hi)
      (try clear ho0)
      refine hK.out _ _ trivial (fun hHeld => ?_)
      clear hK K
      refine nm_ ?_
      refine on_ 10 (some 36) (bq_ 11 3) HT_ (fun K hK => ?_)
      refine goes_ Try.func60 (by kernel_rfl) rfl #[.slice A0 y253.length c0] (by rfl) rfl rfl al_ ?_
      with_reducible refine (impl_innerOf.calls k _ _ y253 t257 _ ?side1 ?side2 A24.out).mono ?_
      (case side1 => exact kc_ (Kd.C_below HR256.out HB.out))
      (case side2 => exact HC256.out)
      rintro e w30 ⟨rfl, hb⟩
      refine ⟨_, rfl, ?_⟩
      have n0_ := Aside0.mk (Kd.R_below (kr_ HO252.out) hb)
      have n1_ := Aside0.mk (below_step (be_ HB.out) hb)
      clear HO252
      clear HB
      have HO252 := n0_
      have HB := n1_
      clear n0_ n1_
      (try clear hb)
      (try clear hb2)
      (try clear hk)
      (try clear hi)
      refine hK.out _ _ trivial (fun hHeld => ?_)
      clear hK K
      refine nm_ ?_
      refine on_ 11 (some 37) (bq_ 12 2) HT_ (fun K hK => ?_)
      refine value_ (w1 := ?_) (v := ?_) (by rfl) rfl ?_ ?_
      rotate_left 2
      · go_simp
        constructor
        · rfl
        · rfl
      refine hK.out _ _ trivial (fun hHeld => ?_)
      clear hK K
      refine nm_ ?_
      refine on_ 12 (some 38) (bq_ 13 1) HT_ (fun K hK => ?_)
      refine Kd.R_append_step Kd.string (w0 := w) w.heap.size (by rfl) (.tmp 32) (.tmp 37) 27 9 (.string ⟨#[]⟩) 16 rfl Try.underlying27 info9 rfl (by decide) (by omega) v251 t250 t257 [.string t257] (fun _ => True) (fun _ => False) rfl rfl ?aP (fun _ hk => hk.elim) ?aF ?aO ?aB ?aS ?aL ?_
      (case aP => exact rfl)
      (case aB => exact (be_ HB.out))
      (case aF => exact (fun _ _ => trivial))
      (case aO => exact (kr_ HO252.out))
      (case aS => exact (below_size (be_ HB.out)))
      (case aL => have := LMc25.out; omega)
      intro v259 w31 ho hb hg hat
      rw [← Ny258.out] at ho
      have n0_ := Aside0.mk (hb)
      have n1_ := Aside0.mk (ho)
      clear HB
      clear HO252
      have HB := n0_
      have HO260 := n1_
      clear n0_ n1_
      clear ho hb hg hat
      refine hK.out _ _ trivial (fun hHeld => ?_)
      clear hK K
      refine nm_ ?_
      refine pu_ 13 (some 4) (bq_ 14 0) HT_ ?_
      refine done_ (done_of HT_.out (by kernel_rfl)) ?_
      try go_wp2
      go_ret
      exact ⟨_, by first | rfl | (simp [errW_none, errW_some] <;> rfl) | (simp [*, errW_none, errW_some] <;> rfl), by (with_reducible repeat (first | apply Kd.R_alloc | apply Kd.R_drewN | apply Kd.R_drew)); exact HO260.out, be_ HB.out⟩

/-! ###  impl_IsClash: function 13 -/
def impl_IsClash.f (k : Nat) (a0 : ByteArray) (a1 : ByteArray) (a2 : Int) : Option (Bool) :=
  if a0.toList = a1.toList then some false else if 0 ≤ a2 ∧ a2 ≤ 32 then (if a0.size ≤ 9223372036854775807 ∧ a1.size ≤ 9223372036854775807 then
   (impl_Digest.f k (bytesOf a0)).bind fun d0 => (impl_Digest.f k (bytesOf a1)).bind fun d1 => if d0.size = 32 ∧ d1.size = 32 then some ((d0.extract 0 a2.toNat).toList == (d1.extract 0 a2.toNat).toList) else none else none) else some false
theorem impl_IsClash.dig (k : Nat) (s d : ByteArray) (A : Option Addr) (c : Nat) (w : World) (hC : (Kd.int .u8).C w A (bytesOf s).length (bytesOf s)) (hc : (bytesOf s).length ≤ c) (h : impl_Digest.f k (bytesOf s) = some d) :
  Calls Try.prog 67 #[.slice A s.size c] w fun e w' => e = .returned (.string d) ∧ Below w.heap.size w w' := by
  rw [← bytesOf_length s]
  exact impl_Digest.calls k A c (bytesOf s) d w hC hc h
theorem impl_IsClash.conv_step {P : Program} {ops : Array Oper} {o : Oper} {a : Act} {Q : Exit → Act → World → Prop} {Kc : Act → World → Prop} {W : World} (hw : Region.wanted o (yielded ops a.tmps) = true) (src dst e : TypeId) (x : Operand) (s : ByteArray) (ho : o.op = .convert src dst x) (hx : a.eval x = .string s)
  (hs : P.underlying src = some .string) (hd : P.underlying dst = some (.slice e)) (he : P.underlying e = some (.int .u8)) (hl : s.size ≤ 9223372036854775807)
  (h : ∀ g c w1, Kd.C (Kd.int .u8) w1 (some ⟨g, 0, none⟩) (bytesOf s).length (bytesOf s) → (bytesOf s).length ≤ c → Below W.heap.size W w1 → Kc (a.put o.dst (.slice (some ⟨g, 0, none⟩) s.size c)) w1) :
  if Region.wanted o (yielded ops a.tmps) = true then Oper.wp P o a W Kc Q else Kc (a.put o.dst undef) W := by
  have hlen : (bytesOf s).length = s.size := bytesOf_length s
  refine event_step hw (w1 := Lib.bytesWorld W e s) (v := .slice (some ⟨W.heap.size, 0, none⟩) s.size (grownCap W s.size 0 e)) ?_ ?_
  · have hr := Lib.run_convert_string_bytes (P := P) W src dst e s hs hd he
    unfold execOp
    rw [ho]
    simp only [hx]
    first | (simp [go_sem, hr]; done) | (simp [hr, Result.andThen]; done)
  · refine h _ _ _ ⟨rfl, by omega, fun _ => ⟨_, rfl, fun j p hp => ⟨[.int .u8 p], rfl, rfl, fun i u hu => ?_⟩⟩⟩ ?_ ⟨rfl, rfl, rfl, ?_, fun k hk => Lib.bytesWorld_at_old W e s k hk⟩
    · have hj : j < (bytesOf s).length := (List.getElem?_eq_some_iff.1 hp).1
      obtain ⟨rfl, rfl⟩ : i = 0 ∧ u = .int .u8 p := by
       cases i with
       | zero => simpa using hu.symm
       | succ i => simp at hu
      have hc := Lib.bytesWorld_cell W e s j (by omega)
      have hpj : p = ((s.data.toList.getD j 0).toNat : Int) := by
       have h1 := hp
       rw [bytesOf, List.getElem?_map] at h1
       obtain ⟨b, hb, rfl⟩ := Option.map_eq_some_iff.1 h1
       rw [List.getD_eq_getElem?_getD, hb]
       rfl
      have ha : (Addr.mk W.heap.size 0 none).add (j * (Kd.int .u8).sz + 0) = ⟨W.heap.size, j, none⟩ := by
       show (Addr.mk W.heap.size 0 none).add (j * 1 + 0) = _
       rw [Nat.mul_one, Nat.add_zero]
       unfold Addr.add
       split
       · next h0 => rw [h0]
       · simp
      rw [ha, hpj]
      exact hc
    · rw [hlen]
      exact grownCap_ge _ _ _ _
    · rw [Lib.bytesWorld_size]
      omega
def impl_IsClash.T1 : Bool × List (List Nat × List Nat) := (true, [([], []), ([], []), ([0, 1], [0, 1]), ([2], [2]), ([3], [3]), ([4, 3, 3], [3, 4]), ([3, 5], [3, 5]), ([6, 5], [6]), ([7], [7]), ([8, 7], [7, 8]), ([9, 7, 7], [7, 9]), ([7], [7]), ([10, 11, 7], [7, 10, 11]), ([7], [7]), ([13, 7], [7, 13]), ([14, 10, 7], [7, 14]), ([7], [7]), ([15, 16, 7], [7, 15, 16]), ([12, 17, 7], [7, 12, 17]), ([7, 18], [7, 18]), ([19, 15, 0, 1, 2, 3, 4, 5, 6, 7, 8, 9, 10, 11, 12, 13, 14, 15, 16, 17, 18, 19], [19])])
def impl_IsClash.B1 : List Nat := [0, 0, 3, 7, 15, 31, 63, 127, 255, 511, 1023, 255, 4095, 255, 8447, 26623, 255, 124927, 262143, 524287, 1048575]
theorem impl_IsClash.tab1 : rtab .any (opsOf Try.f13 1) = impl_IsClash.T1 := by kernel_rfl
theorem impl_IsClash.bits1 : waitsOk impl_IsClash.T1.2 impl_IsClash.B1 = true := by kernel_rfl
set_option maxHeartbeats 8000000 in
set_option maxRecDepth 100000 in
theorem impl_IsClash.calls (k : Nat) (a0 : ByteArray) (a1 : ByteArray) (a2 : Int) (r : Bool) (w : World) (h : impl_IsClash.f k a0 a1 a2 = some r) :
  Calls Try.prog 13 #[.string a0, .string a1, .int .i64 a2] w fun e w' => e = .returned (.bool r) ∧ Below w.heap.size w w' := by
  unfold impl_IsClash.f at h
  by_cases c : a0.toList = a1.toList
  · rw [if_pos c] at h
    obtain rfl := Option.some.inj h
    have cb0 : (a0.toList == a1.toList) = true := beq_iff_eq.mpr c
    have cb1 : (a0.toList != a1.toList) = false := bne_eq_false_iff_eq.mpr c
    clear c h
    go_enter Try.func13, Try.ntmps13
    go_wp2
    have HB := Aside0.mk (below_drew1 (Below.refl w.heap.size w))
    refine start_ (n := 21) (S := fun w' => True) (ds := []) (bq_ 0 21) (by kernel_rfl) rfl rfl trivial (fun hHeld => ?_); refine with_tabW impl_IsClash.tab1 impl_IsClash.bits1 (fun HT_ HW_ => ?_)
    generalize w.drew = w0 at HB hHeld ⊢
    clear hHeld
    refine pv_ 0 (some 7) (bq_ 1 20) HT_ ?_
    refine pv_ 1 (some 8) (bq_ 2 19) HT_ ?_
    refine pv_ 2 (some 9) (bq_ 3 18) HT_ ?_
    refine pv_ 3 (some 10) (bq_ 4 17) HT_ ?_
    refine pure_ (i := 4) (N := some 11) (v := undef) (a' := ?_) (bq_ 5 16) rfl rfl (any_of HT_.out (by kernel_rfl)) (fun _ _ _ h => h) (Or.inr ⟨by rfl, rfl⟩) ?_ ?_
    rotate_left
    · simp only [Act.put, sa_, sz_, ss_]; rfl
    refine pure_ (i := 5) (N := some 12) (v := undef) (a' := ?_) (bq_ 6 15) rfl rfl (any_of HT_.out (by kernel_rfl)) (fun _ _ _ h => h) (Or.inr ⟨by rfl, rfl⟩) ?_ ?_
    rotate_left
    · simp only [Act.put, sa_, sz_, ss_]; rfl
    refine pv_ 6 (some 13) (bq_ 7 14) HT_ ?_
    refine pv_ 7 (some 14) (bq_ 8 13) HT_ ?_
    refine pure_ (i := 8) (N := some 15) (v := undef) (a' := ?_) (bq_ 9 12) rfl rfl (any_of HT_.out (by kernel_rfl)) (fun _ _ _ h => h) (Or.inr ⟨by rfl, rfl⟩) ?_ ?_
    rotate_left
    · simp only [Act.put, sa_, sz_, ss_]; rfl
    refine pure_ (i := 9) (N := some 16) (v := undef) (a' := ?_) (bq_ 10 11) rfl rfl (any_of HT_.out (by kernel_rfl)) (fun _ _ _ h => h) (Or.inr ⟨by rfl, rfl⟩) ?_ ?_
    rotate_left
    · simp only [Act.put, sa_, sz_, ss_]; rfl
    refine pure_ (i := 10) (N := some 17) (v := undef) (a' := ?_) (bq_ 11 10) rfl rfl (any_of HT_.out (by kernel_rfl)) (fun _ _ _ h => h) (Or.inr ⟨by rfl, rfl⟩) ?_ ?_
    rotate_left
    · simp only [Act.put, sa_, sz_, ss_]; rfl
    refine pure_ (i := 11) (N := some 18) (v := undef) (a' := ?_) (bq_ 12 9) rfl rfl (any_of HT_.out (by kernel_rfl)) (fun _ _ _ h => h) (Or.inr ⟨by rfl, rfl⟩) ?_ ?_
    rotate_left
    · simp only [Act.put, sa_, sz_, ss_]; rfl
    refine pure_ (i := 12) (N := some 19) (v := undef) (a' := ?_) (bq_ 13 8) rfl rfl (any_of HT_.out (by kernel_rfl)) (fun _ _ _ h => h) (Or.inr ⟨by rfl, rfl⟩) ?_ ?_
    rotate_left
    · simp only [Act.put, sa_, sz_, ss_]; rfl
    refine pure_ (i := 13) (N := some 20) (v := undef) (a' := ?_) (bq_ 14 7) rfl rfl (any_of HT_.out (by kernel_rfl)) (fun _ _ _ h => h) (Or.inr ⟨by rfl, rfl⟩) ?_ ?_
    rotate_left
    · simp only [Act.put, sa_, sz_, ss_]; rfl
    refine pure_ (i := 14) (N := some 21) (v := undef) (a' := ?_) (bq_ 15 6) rfl rfl (any_of HT_.out (by kernel_rfl)) (fun _ _ _ h => h) (Or.inr ⟨by rfl, rfl⟩) ?_ ?_
    rotate_left
    · simp only [Act.put, sa_, sz_, ss_]; rfl
    refine pure_ (i := 15) (N := some 22) (v := undef) (a' := ?_) (bq_ 16 5) rfl rfl (any_of HT_.out (by kernel_rfl)) (fun _ _ _ h => h) (Or.inr ⟨by rfl, rfl⟩) ?_ ?_
    rotate_left
    · simp only [Act.put, sa_, sz_, ss_]; rfl
    refine pure_ (i := 16) (N := some 23) (v := undef) (a' := ?_) (bq_ 17 4) rfl rfl (any_of HT_.out (by kernel_rfl)) (fun _ _ _ h => h) (Or.inr ⟨by rfl, rfl⟩) ?_ ?_
    rotate_left
    · simp only [Act.put, sa_, sz_, ss_]; rfl
    refine pure_ (i := 17) (N := some 24) (v := undef) (a' := ?_) (bq_ 18 3) rfl rfl (any_of HT_.out (by kernel_rfl)) (fun _ _ _ h => h) (Or.inr ⟨by rfl, rfl⟩) ?_ ?_
    rotate_left
    · simp only [Act.put, sa_, sz_, ss_]; rfl
    refine pure_ (i := 18) (N := some 25) (v := undef) (a' := ?_) (bq_ 19 2) rfl rfl (any_of HT_.out (by kernel_rfl)) (fun _ _ _ h => h) (Or.inr ⟨by rfl, rfl⟩) ?_ ?_
    rotate_left
    · simp only [Act.put, sa_, sz_, ss_]; rfl
    refine pv_ 19 (some 26) (bq_ 20 1) HT_ ?_
    refine pv_ 20 (some 6) (bq_ 21 0) HT_ ?_
    refine done_ (done_of HT_.out (by kernel_rfl)) ?_
    try go_wp2
    go_ret
    exact ⟨by first | rfl | (simp; done) | simp [*], HB.out⟩
  · rw [if_neg c] at h
    have cb0 : (a0.toList == a1.toList) = false := beq_eq_false_iff_ne.mpr c
    have cb1 : (a0.toList != a1.toList) = true := bne_iff_ne.mpr c
    clear c
    by_cases c2 : 0 ≤ a2 ∧ a2 ≤ 32
    · rw [if_pos c2] at h
      by_cases c3 : a0.size ≤ 9223372036854775807 ∧ a1.size ≤ 9223372036854775807
      · rw [if_pos c3] at h
        obtain ⟨d0, h0, h⟩ := Option.bind_eq_some_iff.mp h
        obtain ⟨d1, h1, h⟩ := Option.bind_eq_some_iff.mp h
        by_cases c4 : d0.size = 32 ∧ d1.size = 32
        · rw [if_pos c4] at h
          have hin : impl_inRange.f a2 0 32 = some true := by
           unfold impl_inRange.f
           by_cases c5 : a2 ≥ 0
           · rw [if_pos c5]
             congr 1
             first | exact decide_eq_true (by omega) | exact decide_eq_false (by omega)
           · first | (exfalso; omega) | rw [if_neg c5]
          have HI := Aside0.mk hin
          clear hin
          obtain rfl := Option.some.inj h
          have H0 := Aside0.mk h0
          have H1 := Aside0.mk h1
          have C3 := Aside0.mk c3
          have q1 : (0 : Int) ≤ a2 := c2.1
          have q2 : a2 ≤ (d0.size : Int) := by omega
          have q3 : a2 ≤ (d1.size : Int) := by omega
          clear h h0 h1 c2 c3 c4
          go_enter Try.func13, Try.ntmps13
          go_wp2
          have HB := Aside0.mk (below_drew1 (Below.refl w.heap.size w))
          refine start_ (n := 21) (S := fun w' => True) (ds := []) (bq_ 0 21) (by kernel_rfl) rfl rfl trivial (fun hHeld => ?_); refine with_tabW impl_IsClash.tab1 impl_IsClash.bits1 (fun HT_ HW_ => ?_)
          generalize w.drew = w0 at HB hHeld ⊢
          clear hHeld
          refine pv_ 0 (some 7) (bq_ 1 20) HT_ ?_
          refine pv_ 1 (some 8) (bq_ 2 19) HT_ ?_
          refine pv_ 2 (some 9) (bq_ 3 18) HT_ ?_
          refine pv_ 3 (some 10) (bq_ 4 17) HT_ ?_
          refine pv_ 4 (some 11) (bq_ 5 16) HT_ ?_
          refine on_ 5 (some 12) (bq_ 6 15) HT_ (fun K hK => ?_)
          refine goes_ Try.func66 (by kernel_rfl) rfl #[.int .i64 a2, .int .i64 0, .int .i64 32] (by rfl) rfl rfl (by (try simp only [List.map_toArray, List.map_cons, List.map_nil]); first | done | rfl) ?_
          with_reducible refine (impl_inRange.calls a2 0 32 true _ HI.out).mono ?_
          rintro e w' ⟨rfl, ⟨nd, rfl⟩⟩
          refine ⟨_, rfl, ?_⟩
          refine hK.out _ _ trivial (fun hHeld => ?_)
          clear hK K
          refine nn_ ?_
          have HBn := Aside0.mk (pw_below_drewN HB.out nd)
          clear HB
          have HB := HBn
          clear HBn
          generalize World.drewN _ nd = wc1 at HB hHeld ⊢
          clear hHeld
          refine pv_ 6 (some 13) (bq_ 7 14) HT_ ?_
          refine pv_ 7 (some 14) (bq_ 8 13) HT_ ?_
          refine pv_ 8 (some 15) (bq_ 9 12) HT_ ?_
          refine pv_ 11 (some 18) #[true, true, true, true, true, true, true, true, true, false, false, true, false, false, false, false, false, false, false, false, false] HT_ ?_
          refine pv_ 13 (some 20) #[true, true, true, true, true, true, true, true, true, false, false, true, false, true, false, false, false, false, false, false, false] HT_ ?_
          refine pv_ 16 (some 23) #[true, true, true, true, true, true, true, true, true, false, false, true, false, true, false, false, true, false, false, false, false] HT_ ?_
          refine two_ (i := 9) (j := 14) (Ni := some 16) (Nj := some 21) #[true, true, true, true, true, true, true, true, true, true, false, true, false, true, false, false, true, false, false, false, false] #[true, true, true, true, true, true, true, true, true, false, false, true, false, true, true, false, true, false, false, false, false] rfl rfl rfl rfl (two_of HT_.out (by kernel_rfl)) (by decide) (by decide) (fun K hK => ?_) (fun K hK => ?_)
          · skip
            refine impl_IsClash.conv_step (by rfl) 9 22 5 _ a0 rfl rfl Try.underlying9 Try.underlying22 Try.underlying5 C3.out.1 ?_
            intro g0 c0 wv hC hl hb
            refine hK.out _ _ trivial (fun hHeld => ?_)
            clear hK K hHeld
            refine nn_ ?_
            have HBn := Aside0.mk (below_step HB.out hb)
            clear HB
            have HB := HBn
            clear HBn
            have HC0 := Aside0.mk hC
            have HL0 := Aside0.mk hl
            clear hC hl hb
            refine two_ (i := 10) (j := 14) (Ni := some 17) (Nj := some 21) #[true, true, true, true, true, true, true, true, true, true, true, true, false, true, false, false, true, false, false, false, false] #[true, true, true, true, true, true, true, true, true, true, false, true, false, true, true, false, true, false, false, false, false] rfl rfl rfl rfl (two_of HT_.out (by kernel_rfl)) (by decide) (by decide) (fun K hK => ?_) (fun K hK => ?_)
            · skip
              refine goes_ Try.func67 (by kernel_rfl) rfl #[.slice (some ⟨g0, 0, none⟩) a0.size c0] (by rfl) rfl rfl (by (try simp only [List.map_toArray, List.map_cons, List.map_nil]); first | done | rfl) ?_
              with_reducible refine (impl_IsClash.dig k a0 d0 _ _ _ HC0.out HL0.out H0.out).mono ?_
              rintro e wv ⟨rfl, hb⟩
              refine ⟨_, rfl, ?_⟩
              refine hK.out _ _ trivial (fun hHeld => ?_)
              clear hK K hHeld HC0 HL0
              refine nn_ ?_
              have HBn := Aside0.mk (below_step HB.out hb)
              clear HB
              have HB := HBn
              clear HBn hb
              refine pv_ 12 (some 19) #[true, true, true, true, true, true, true, true, true, true, true, true, true, true, false, false, true, false, false, false, false] HT_ ?_
              refine on_ 14 (some 21) #[true, true, true, true, true, true, true, true, true, true, true, true, true, true, true, false, true, false, false, false, false] HT_ (fun K hK => ?_)
              refine impl_IsClash.conv_step (by rfl) 9 22 5 _ a1 rfl rfl Try.underlying9 Try.underlying22 Try.underlying5 C3.out.2 ?_
              intro g1 c1 wv hC hl hb
              refine hK.out _ _ trivial (fun hHeld => ?_)
              clear hK K hHeld
              refine nn_ ?_
              have HBn := Aside0.mk (below_step HB.out hb)
              clear HB
              have HB := HBn
              clear HBn
              have HC1 := Aside0.mk hC
              have HL1 := Aside0.mk hl
              clear hC hl hb
              refine on_ 15 (some 22) (bq_ 17 4) HT_ (fun K hK => ?_)
              refine goes_ Try.func67 (by kernel_rfl) rfl #[.slice (some ⟨g1, 0, none⟩) a1.size c1] (by rfl) rfl rfl (by (try simp only [List.map_toArray, List.map_cons, List.map_nil]); first | done | rfl) ?_
              with_reducible refine (impl_IsClash.dig k a1 d1 _ _ _ HC1.out HL1.out H1.out).mono ?_
              rintro e wv ⟨rfl, hb⟩
              refine ⟨_, rfl, ?_⟩
              refine hK.out _ _ trivial (fun hHeld => ?_)
              clear hK K hHeld HC1 HL1
              refine nn_ ?_
              have HBn := Aside0.mk (below_step HB.out hb)
              clear HB
              have HB := HBn
              clear HBn hb
              refine pv_ 17 (some 24) (bq_ 18 3) HT_ ?_
              refine pv_ 18 (some 25) (bq_ 19 2) HT_ ?_
              refine pv_ 19 (some 26) (bq_ 20 1) HT_ ?_
              refine pv_ 20 (some 6) (bq_ 21 0) HT_ ?_
              refine done_ (done_of HT_.out (by kernel_rfl)) ?_
              try go_wp2
              go_ret
              exact ⟨by first | rfl | (simp; done) | simp [*], HB.out⟩
            · skip
              refine impl_IsClash.conv_step (by rfl) 9 22 5 _ a1 rfl rfl Try.underlying9 Try.underlying22 Try.underlying5 C3.out.2 ?_
              intro g1 c1 wv hC hl hb
              refine hK.out _ _ trivial (fun hHeld => ?_)
              clear hK K hHeld
              refine nn_ ?_
              have HCn := Aside0.mk (Kd.C_below HC0.out hb)
              clear HC0
              have HC0 := HCn
              clear HCn
              have HBn := Aside0.mk (below_step HB.out hb)
              clear HB
              have HB := HBn
              clear HBn
              have HC1 := Aside0.mk hC
              have HL1 := Aside0.mk hl
              clear hC hl hb
              refine on_ 10 (some 17) #[true, true, true, true, true, true, true, true, true, true, true, true, false, true, true, false, true, false, false, false, false] HT_ (fun K hK => ?_)
              refine goes_ Try.func67 (by kernel_rfl) rfl #[.slice (some ⟨g0, 0, none⟩) a0.size c0] (by rfl) rfl rfl (by (try simp only [List.map_toArray, List.map_cons, List.map_nil]); first | done | rfl) ?_
              with_reducible refine (impl_IsClash.dig k a0 d0 _ _ _ HC0.out HL0.out H0.out).mono ?_
              rintro e wv ⟨rfl, hb⟩
              refine ⟨_, rfl, ?_⟩
              refine hK.out _ _ trivial (fun hHeld => ?_)
              clear hK K hHeld HC0 HL0
              refine nn_ ?_
              have HCn := Aside0.mk (Kd.C_below HC1.out hb)
              clear HC1
              have HC1 := HCn
              clear HCn
              have HBn := Aside0.mk (below_step HB.out hb)
              clear HB
              have HB := HBn
              clear HBn hb
              refine pv_ 12 (some 19) #[true, true, true, true, true, true, true, true, true, true, true, true, true, true, true, false, true, false, false, false, false] HT_ ?_
              refine on_ 15 (some 22) (bq_ 17 4) HT_ (fun K hK => ?_)
              refine goes_ Try.func67 (by kernel_rfl) rfl #[.slice (some ⟨g1, 0, none⟩) a1.size c1] (by rfl) rfl rfl (by (try simp only [List.map_toArray, List.map_cons, List.map_nil]); first | done | rfl) ?_
              with_reducible refine (impl_IsClash.dig k a1 d1 _ _ _ HC1.out HL1.out H1.out).mono ?_
              rintro e wv ⟨rfl, hb⟩
              refine ⟨_, rfl, ?_⟩
              refine hK.out _ _ trivial (fun hHeld => ?_)
              clear hK K hHeld HC1 HL1
              refine nn_ ?_
              have HBn := Aside0.mk (below_step HB.out hb)
              clear HB
              have HB := HBn
              clear HBn hb
              refine pv_ 17 (some 24) (bq_ 18 3) HT_ ?_
              refine pv_ 18 (some 25) (bq_ 19 2) HT_ ?_
              refine pv_ 19 (some 26) (bq_ 20 1) HT_ ?_
              refine pv_ 20 (some 6) (bq_ 21 0) HT_ ?_
              refine done_ (done_of HT_.out (by kernel_rfl)) ?_
              try go_wp2
              go_ret
              exact ⟨by first | rfl | (simp; done) | simp [*], HB.out⟩
          · skip
            refine impl_IsClash.conv_step (by rfl) 9 22 5 _ a1 rfl rfl Try.underlying9 Try.underlying22 Try.underlying5 C3.out.2 ?_
            intro g1 c1 wv hC hl hb
            refine hK.out _ _ trivial (fun hHeld => ?_)
            clear hK K hHeld
            refine nn_ ?_
            have HBn := Aside0.mk (below_step HB.out hb)
            clear HB
            have HB := HBn
            clear HBn
            have HC1 := Aside0.mk hC
            have HL1 := Aside0.mk hl
            clear hC hl hb
            refine on_ 9 (some 16) #[true, true, true, true, true, true, true, true, true, true, false, true, false, true, true, false, true, false, false, false, false] HT_ (fun K hK => ?_)
            refine impl_IsClash.conv_step (by rfl) 9 22 5 _ a0 rfl rfl Try.underlying9 Try.underlying22 Try.underlying5 C3.out.1 ?_
            intro g0 c0 wv hC hl hb
            refine hK.out _ _ trivial (fun hHeld => ?_)
            clear hK K hHeld
            refine nn_ ?_
            have HCn := Aside0.mk (Kd.C_below HC1.out hb)
            clear HC1
            have HC1 := HCn
            clear HCn
            have HBn := Aside0.mk (below_step HB.out hb)
            clear HB
            have HB := HBn
            clear HBn
            have HC0 := Aside0.mk hC
            have HL0 := Aside0.mk hl
            clear hC hl hb
            refine on_ 10 (some 17) #[true, true, true, true, true, true, true, true, true, true, true, true, false, true, true, false, true, false, false, false, false] HT_ (fun K hK => ?_)
            refine goes_ Try.func67 (by kernel_rfl) rfl #[.slice (some ⟨g0, 0, none⟩) a0.size c0] (by rfl) rfl rfl (by (try simp only [List.map_toArray, List.map_cons, List.map_nil]); first | done | rfl) ?_
            with_reducible refine (impl_IsClash.dig k a0 d0 _ _ _ HC0.out HL0.out H0.out).mono ?_
            rintro e wv ⟨rfl, hb⟩
            refine ⟨_, rfl, ?_⟩
            refine hK.out _ _ trivial (fun hHeld => ?_)
            clear hK K hHeld HC0 HL0
            refine nn_ ?_
            have HCn := Aside0.mk (Kd.C_below HC1.out hb)
            clear HC1
            have HC1 := HCn
            clear HCn
            have HBn := Aside0.mk (below_step HB.out hb)
            clear HB
            have HB := HBn
            clear HBn hb
            refine pv_ 12 (some 19) #[true, true, true, true, true, true, true, true, true, true, true, true, true, true, true, false, true, false, false, false, false] HT_ ?_
            refine on_ 15 (some 22) (bq_ 17 4) HT_ (fun K hK => ?_)
            refine goes_ Try.func67 (by kernel_rfl) rfl #[.slice (some ⟨g1, 0, none⟩) a1.size c1] (by rfl) rfl rfl (by (try simp only [List.map_toArray, List.map_cons, List.map_nil]); first | done | rfl) ?_
            with_reducible refine (impl_IsClash.dig k a1 d1 _ _ _ HC1.out HL1.out H1.out).mono ?_
            rintro e wv ⟨rfl, hb⟩
            refine ⟨_, rfl, ?_⟩
            refine hK.out _ _ trivial (fun hHeld => ?_)
            clear hK K hHeld HC1 HL1
            refine nn_ ?_
            have HBn := Aside0.mk (below_step HB.out hb)
            clear HB
            have HB := HBn
            clear HBn hb
            refine pv_ 17 (some 24) (bq_ 18 3) HT_ ?_
            refine pv_ 18 (some 25) (bq_ 19 2) HT_ ?_
            refine pv_ 19 (some 26) (bq_ 20 1) HT_ ?_
            refine pv_ 20 (some 6) (bq_ 21 0) HT_ ?_
            refine done_ (done_of HT_.out (by kernel_rfl)) ?_
            try go_wp2
            go_ret
            exact ⟨by first | rfl | (simp; done) | simp [*], HB.out⟩
        · rw [if_neg c4] at h; cases h
      · rw [if_neg c3] at h; cases h
    · rw [if_neg c2] at h
      obtain rfl := Option.some.inj h
      have hin : impl_inRange.f a2 0 32 = some false := by
       unfold impl_inRange.f
       by_cases c5 : a2 ≥ 0
       · rw [if_pos c5]
         congr 1
         first | exact decide_eq_true (by omega) | exact decide_eq_false (by omega)
       · first | (exfalso; omega) | rw [if_neg c5]
      have HI := Aside0.mk hin
      clear hin
      clear h c2
      go_enter Try.func13, Try.ntmps13
      go_wp2
      have HB := Aside0.mk (below_drew1 (Below.refl w.heap.size w))
      refine start_ (n := 21) (S := fun w' => True) (ds := []) (bq_ 0 21) (by kernel_rfl) rfl rfl trivial (fun hHeld => ?_); refine with_tabW impl_IsClash.tab1 impl_IsClash.bits1 (fun HT_ HW_ => ?_)
      generalize w.drew = w0 at HB hHeld ⊢
      clear hHeld
      refine pv_ 0 (some 7) (bq_ 1 20) HT_ ?_
      refine pv_ 1 (some 8) (bq_ 2 19) HT_ ?_
      refine pv_ 2 (some 9) (bq_ 3 18) HT_ ?_
      refine pv_ 3 (some 10) (bq_ 4 17) HT_ ?_
      refine pv_ 4 (some 11) (bq_ 5 16) HT_ ?_
      refine on_ 5 (some 12) (bq_ 6 15) HT_ (fun K hK => ?_)
      refine goes_ Try.func66 (by kernel_rfl) rfl #[.int .i64 a2, .int .i64 0, .int .i64 32] (by rfl) rfl rfl (by (try simp only [List.map_toArray, List.map_cons, List.map_nil]); first | done | rfl) ?_
      with_reducible refine (impl_inRange.calls a2 0 32 false _ HI.out).mono ?_
      rintro e w' ⟨rfl, ⟨nd, rfl⟩⟩
      refine ⟨_, rfl, ?_⟩
      refine hK.out _ _ trivial (fun hHeld => ?_)
      clear hK K
      refine nn_ ?_
      have HBn := Aside0.mk (pw_below_drewN HB.out nd)
      clear HB
      have HB := HBn
      clear HBn
      generalize World.drewN _ nd = wc2 at HB hHeld ⊢
      clear hHeld
      refine pv_ 6 (some 13) (bq_ 7 14) HT_ ?_
      refine pv_ 7 (some 14) (bq_ 8 13) HT_ ?_
      refine pure_ (i := 8) (N := some 15) (v := undef) (a' := ?_) (bq_ 9 12) rfl rfl (any_of HT_.out (by kernel_rfl)) (fun _ _ _ h => h) (Or.inr ⟨by rfl, rfl⟩) ?_ ?_
      rotate_left
      · simp only [Act.put, sa_, sz_, ss_]; rfl
      refine pure_ (i := 9) (N := some 16) (v := undef) (a' := ?_) (bq_ 10 11) rfl rfl (any_of HT_.out (by kernel_rfl)) (fun _ _ _ h => h) (Or.inr ⟨by rfl, rfl⟩) ?_ ?_
      rotate_left
      · simp only [Act.put, sa_, sz_, ss_]; rfl
      refine pure_ (i := 10) (N := some 17) (v := undef) (a' := ?_) (bq_ 11 10) rfl rfl (any_of HT_.out (by kernel_rfl)) (fun _ _ _ h => h) (Or.inr ⟨by rfl, rfl⟩) ?_ ?_
      rotate_left
      · simp only [Act.put, sa_, sz_, ss_]; rfl
      refine pure_ (i := 11) (N := some 18) (v := undef) (a' := ?_) (bq_ 12 9) rfl rfl (any_of HT_.out (by kernel_rfl)) (fun _ _ _ h => h) (Or.inr ⟨by rfl, rfl⟩) ?_ ?_
      rotate_left
      · simp only [Act.put, sa_, sz_, ss_]; rfl
      refine pure_ (i := 12) (N := some 19) (v := undef) (a' := ?_) (bq_ 13 8) rfl rfl (any_of HT_.out (by kernel_rfl)) (fun _ _ _ h => h) (Or.inr ⟨by rfl, rfl⟩) ?_ ?_
      rotate_left
      · simp only [Act.put, sa_, sz_, ss_]; rfl
      refine pure_ (i := 13) (N := some 20) (v := undef) (a' := ?_) (bq_ 14 7) rfl rfl (any_of HT_.out (by kernel_rfl)) (fun _ _ _ h => h) (Or.inr ⟨by rfl, rfl⟩) ?_ ?_
      rotate_left
      · simp only [Act.put, sa_, sz_, ss_]; rfl
      refine pure_ (i := 14) (N := some 21) (v := undef) (a' := ?_) (bq_ 15 6) rfl rfl (any_of HT_.out (by kernel_rfl)) (fun _ _ _ h => h) (Or.inr ⟨by rfl, rfl⟩) ?_ ?_
      rotate_left
      · simp only [Act.put, sa_, sz_, ss_]; rfl
      refine pure_ (i := 15) (N := some 22) (v := undef) (a' := ?_) (bq_ 16 5) rfl rfl (any_of HT_.out (by kernel_rfl)) (fun _ _ _ h => h) (Or.inr ⟨by rfl, rfl⟩) ?_ ?_
      rotate_left
      · simp only [Act.put, sa_, sz_, ss_]; rfl
      refine pure_ (i := 16) (N := some 23) (v := undef) (a' := ?_) (bq_ 17 4) rfl rfl (any_of HT_.out (by kernel_rfl)) (fun _ _ _ h => h) (Or.inr ⟨by rfl, rfl⟩) ?_ ?_
      rotate_left
      · simp only [Act.put, sa_, sz_, ss_]; rfl
      refine pure_ (i := 17) (N := some 24) (v := undef) (a' := ?_) (bq_ 18 3) rfl rfl (any_of HT_.out (by kernel_rfl)) (fun _ _ _ h => h) (Or.inr ⟨by rfl, rfl⟩) ?_ ?_
      rotate_left
      · simp only [Act.put, sa_, sz_, ss_]; rfl
      refine pure_ (i := 18) (N := some 25) (v := undef) (a' := ?_) (bq_ 19 2) rfl rfl (any_of HT_.out (by kernel_rfl)) (fun _ _ _ h => h) (Or.inr ⟨by rfl, rfl⟩) ?_ ?_
      rotate_left
      · simp only [Act.put, sa_, sz_, ss_]; rfl
      refine pv_ 19 (some 26) (bq_ 20 1) HT_ ?_
      refine pv_ 20 (some 6) (bq_ 21 0) HT_ ?_
      refine done_ (done_of HT_.out (by kernel_rfl)) ?_
      try go_wp2
      go_ret
      exact ⟨by first | rfl | (simp; done) | simp [*], HB.out⟩


/-! ###  impl_isFull: function 58 -/
def impl_isFull.f (k : Nat) (a0 : ByteArray) (a1 : ByteArray) : Option (Bool) := (impl_IsClash.f k a0 a1 32).bind fun t261 => (some t261)
set_option maxHeartbeats 8000000 in
set_option maxRecDepth 100000 in
theorem impl_isFull.calls (k : Nat) (a0 : ByteArray) (a1 : ByteArray) (r : Bool) (w : World) (h : impl_isFull.f k a0 a1 = some r) :
  Calls Try.prog 58 #[.string a0, .string a1] w fun e w' => e = .returned (.bool r) ∧ Below w.heap.size w w' := by
  have HB := Aside0.mk (Below.refl w.heap.size w)
  have H : ((impl_IsClash.f k a0 a1 32).bind fun t261 => (some t261)) = some r := h
  clear h
  replace H := Option.bind_eq_some_iff.mp H
  obtain ⟨t261, A30, H⟩ := H
  have A3 := Aside0.mk A30
  clear A30
  obtain rfl := Option.some.inj H
  go_enter Try.func58, Try.ntmps58
  go_wp2_with (first | ((with_reducible refine gate_callee (f := 13) rfl ?_); refine goesL_ (some 7) rfl rfl Try.func13 (by kernel_rfl) rfl #[.string a0, .string a1, .int .i64 32] rfl al_ ?_; (with_reducible refine (impl_IsClash.calls k a0 a1 32 t261 _ A3.out).mono ?_); rintro e w4 ⟨rfl, hb⟩; refine ⟨_, rfl, ?_⟩; have n0_ := Aside0.mk (below_step (be_ HB.out) hb); clear HB; have HB := n0_; clear n0_; (try clear hb); (try clear hb2); (try clear hk); (try clear hi)))
  go_ret
  exact ⟨by first | rfl | (simp [errW_none, errW_some] <;> rfl) | (simp [*, errW_none, errW_some] <;> rfl), be_ HB.out⟩

end Go.Proofs.Ytgaalomhipfgjaa.P
