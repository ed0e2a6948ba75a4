-- Written by wip/xp/xp.py over the kit's print; Lean checks it.
import Derived.Test.YthkaifddpjjmaaaPx0
import Derived.Test.YthkaifddpjjmaaaPx1
import Derived.Test.YthkaifddpjjmaaaPx5
import Derived.Test.YthkaifddpjjmaaaPx6
import Derived.Test.YthkaifddpjjmaaaPx9
import Derived.Test.YthkaifddpjjmaaaPx11
namespace Go.Proofs.Ythkaifddpjjmaaa.P
open Go.RowKit Go.Proofs.YthkaifddpjjmaaaW.PrintWords Go.Proofs.YthkaifddpjjmaaaW.PrintLast Go.Proofs.YthkaifddpjjmaaaW.PrintMore
attribute [local go_sem] max2_int min2_int max_two min_two max_three min_three max_four min_four   -- for this text's walks alone
set_option linter.unusedVariables false
set_option linter.unusedSimpArgs false

/-! ### laws_FnPaths: function 6 -/
-- by hand
/-- The one way that the law takes: its own path holds, a longer one and another place do not, a shorter one does not. -/
def laws_FnPaths.r (k : Nat) (l0 : List S26) (a1 : Int) (l2 : List ByteArray) (a3 : ByteArray) : Option Bool := if 0 ≤ a1 then (if a1 < (l0.length : Int) then ((impl_CheckPath.f k (rd_T26 l0 a1).f0 (rd_T26 l0 a1).f1 a1 (l0.length : Int) l2 a3).bind fun a => if a = true then (if l2.length + 1 < 8796093022208 then ((impl_CheckPath.f k (rd_T26 l0 a1).f0 (rd_T26 l0 a1).f1 a1 (l0.length : Int) (l2 ++ [(⟨#[120]⟩ : ByteArray)]) a3).bind fun b => if b = true then none else ((impl_CheckPath.f k (rd_T26 l0 a1).f0 (rd_T26 l0 a1).f1 (l0.length : Int) (l0.length : Int) l2 a3).bind fun c => if c = true then none else (if (l2.length : Int) = 0 then some true else if 1 ≤ (l2.length : Int) then (impl_CheckPath.f k (rd_T26 l0 a1).f0 (rd_T26 l0 a1).f1 a1 (l0.length : Int) (l2.drop 1) a3).bind fun d => if d = true then none else some true else none))) else none) else none) else none) else none
def laws_FnPaths.f (k : Nat) (s9 : List Int) : Option (Bool) := (laws_big.f s9).bind fun g => if g = true then some true else (spec_DrawPlace.f k s9).bind fun d => (impl_PathOf.f k d.1 d.2).bind fun l2 => (impl_RootOf.f k d.1).bind fun a3 => laws_FnPaths.r k d.1 d.2 l2 a3
def laws_FnPaths.T6 : Bool × List (List Nat × List Nat) := (true, [([], []), ([], []), ([0, 1], [0, 1]), ([2], [2]), ([], []), ([], []), ([5], [5]), ([], []), ([], []), ([3, 4, 6, 7, 8], [3, 4, 6, 7, 8]), ([9], [9]), ([10, 9], [10]), ([11], [11]), ([11], [11]), ([12, 13, 11], [11, 12, 13]), ([14, 11], [11, 14]), ([11], [11]), ([11], [11]), ([17, 11], [11, 17]), ([11], [11]), ([11], [11]), ([19, 20, 11, 11], [11, 19, 20]), ([11], [11]), ([21, 22, 21, 11], [11, 21, 22]), ([11], [11]), ([15, 16, 18, 23, 24, 23, 11], [11, 15, 16, 18, 23, 24]), ([11, 25], [11, 25]), ([26, 25], [26]), ([27], [27]), ([27], [27]), ([28, 29, 27], [27, 28, 29]), ([30, 27], [27, 30]), ([27], [27]), ([32, 27], [27, 32]), ([27], [27]), ([34, 27], [27, 34]), ([27], [27]), ([27], [27]), ([31, 33, 35, 36, 37, 27, 27], [27, 31, 33, 35, 36, 37]), ([27, 38], [27, 38])])
def laws_FnPaths.B6 : List Nat := [0, 0, 3, 7, 0, 0, 32, 0, 0, 511, 1023, 2047, 4095, 4095, 16383, 32767, 4095, 4095, 135167, 4095, 4095, 1576959, 4095, 7868415, 4095, 33554431, 67108863, 134217727, 268435455, 268435455, 1073741823, 2147483647, 268435455, 4563402751, 268435455, 17448304639, 268435455, 268435455, 274877906943, 549755813887]
theorem laws_FnPaths.tab6 : rtab .any (opsOf Try.f6 6) = laws_FnPaths.T6 := by kernel_rfl
theorem laws_FnPaths.bits6 : waitsOk laws_FnPaths.T6.2 laws_FnPaths.B6 = true := by kernel_rfl
def laws_FnPaths.T8 : Bool × List (List Nat × List Nat) := (true, [([], []), ([0], [0]), ([1], [1]), ([2], [2]), ([3], [3]), ([3], [3]), ([4, 5, 3], [3, 4, 5]), ([6, 3], [3, 6]), ([3], [3]), ([3], [3]), ([9, 3], [3, 9]), ([3], [3]), ([11, 3], [3, 11]), ([3], [3]), ([7, 8, 10, 12, 13, 3, 3], [3, 7, 8, 10, 12, 13]), ([14, 3], [3, 14]), ([3, 15], [3, 15]), ([16, 14, 0, 1, 2, 3, 4, 5, 6, 7, 8, 9, 10, 11, 12, 13, 14, 15, 16], [16])])
def laws_FnPaths.B8 : List Nat := [0, 1, 3, 7, 15, 15, 63, 127, 15, 15, 527, 15, 2063, 15, 16383, 32767, 65535, 131071]
theorem laws_FnPaths.tab8 : rtab .any (opsOf Try.f6 8) = laws_FnPaths.T8 := by kernel_rfl
theorem laws_FnPaths.bits8 : waitsOk laws_FnPaths.T8.2 laws_FnPaths.B8 = true := by kernel_rfl
set_option maxHeartbeats 8000000 in
set_option maxRecDepth 100000 in
theorem laws_FnPaths.calls (k : Nat) (A9 : Option Addr) (c9 : Nat) (s9 : List Int) (r : Bool) (u0 : World) (hr9 : Kd.C (Kd.int .u8) u0 A9 s9.length s9) (hc9 : s9.length ≤ c9) (h : laws_FnPaths.f k s9 = some r) :
    Calls Try.prog 6 #[.slice A9 s9.length c9] u0 fun e w' => e = .returned (.bool r) ∧ Below u0.heap.size u0 w' := by
  have hu26 := Try.underlying26
  have HR9 := Aside0.mk hr9
  have HC9 := Aside0.mk hc9
  clear hr9 hc9
  have HU := Aside0.mk (Below.refl u0.heap.size u0)
  have H := h
  clear h
  unfold laws_FnPaths.f at H
  replace H := Option.bind_eq_some_iff.mp H
  obtain ⟨g, A20, H⟩ := H
  have A2 := Aside0.mk A20
  clear A20
  by_cases cg : g = true
  · subst cg
    rw [if_pos rfl] at H
    obtain rfl := Option.some.inj H
    go_enter Try.func6, Try.ntmps6
    go_wp2_with (first | ((with_reducible refine gate_callee (f := 7) rfl ?_); refine gl_ (some 8) Try.func7 #[.slice A9 s9.length c9] rfl al_ ?_; (with_reducible refine (laws_big.calls _ _ s9 true _ ?side1 ?side2 A2.out).mono ?_); (case side1 => exact kc_ HR9.out); (case side2 => exact HC9.out); rintro e w' ⟨rfl, ⟨nd, rfl⟩⟩; refine ⟨_, rfl, ?_⟩; skip))
    go_ret
    exact ⟨rf_, be_ HU.out⟩
  replace cg := Bool.eq_false_iff.mpr cg
  subst cg
  rw [if_neg (show ¬ (false = true) by decide)] at H
  replace H := Option.bind_eq_some_iff.mp H
  obtain ⟨⟨l0, a1⟩, A40, H⟩ := H
  try dsimp only at H
  have A4 := Aside0.mk A40
  clear A40
  replace H := Option.bind_eq_some_iff.mp H
  obtain ⟨l2, A50, H⟩ := H
  have A5 := Aside0.mk A50
  clear A50
  replace H := Option.bind_eq_some_iff.mp H
  obtain ⟨a3, A60, H⟩ := H
  have A6 := Aside0.mk A60
  clear A60
  unfold laws_FnPaths.r at H
  by_cases c5 : 0 ≤ a1
  rotate_left
  · rw [if_neg c5] at H; exact absurd H (by simp)
  rw [if_pos c5] at H
  have c5b0 : decide (0 ≤ a1) = true := decide_eq_true c5
  clear c5
  by_cases c6 : a1 < (l0.length : Int)
  rotate_left
  · rw [if_neg c6] at H; exact absurd H (by simp)
  rw [if_pos c6] at H
  have c6b0 : decide (a1 < (l0.length : Int)) = true := decide_eq_true c6
  clear c6
  replace H := Option.bind_eq_some_iff.mp H
  obtain ⟨ta, A70, H⟩ := H
  by_cases c7 : ta = true
  rotate_left
  · rw [if_neg c7] at H; exact absurd H (by simp)
  rw [if_pos c7] at H
  subst c7
  have A7 := Aside0.mk A70
  clear A70
  by_cases c9 : l2.length + 1 < 8796093022208
  rotate_left
  · rw [if_neg c9] at H; exact absurd H (by simp)
  rw [if_pos c9] at H
  replace H := Option.bind_eq_some_iff.mp H
  obtain ⟨tb, A110, H⟩ := H
  by_cases c11 : tb = true
  · rw [if_pos c11] at H; exact absurd H (by simp)
  rw [if_neg c11] at H
  replace c11 := Bool.eq_false_iff.mpr c11
  subst c11
  replace H := Option.bind_eq_some_iff.mp H
  obtain ⟨tc, A250, H⟩ := H
  by_cases c25 : tc = true
  · rw [if_pos c25] at H; exact absurd H (by simp)
  rw [if_neg c25] at H
  replace c25 := Bool.eq_false_iff.mpr c25
  subst c25
  have A25 := Aside0.mk A250
  clear A250
  obtain ⟨y387, hy387⟩ : ∃ y_ : List ByteArray, y_ = (([] : List ByteArray)) := ⟨_, rfl⟩
  obtain ⟨y390, hy390⟩ : ∃ y_ : List ByteArray, y_ = (y387 ++ l2) := ⟨_, rfl⟩
  obtain ⟨y393, hy393⟩ : ∃ y_ : List ByteArray, y_ = (([(⟨#[120]⟩ : ByteArray)] : List ByteArray)) := ⟨_, rfl⟩
  obtain ⟨y396, hy396⟩ : ∃ y_ : List ByteArray, y_ = (y390 ++ y393) := ⟨_, rfl⟩
  have LMc9 : Aside0 (y387.length + l2.length < 8796093022208) := ⟨by rw [hy387, List.length_nil]; omega⟩
  have LMc10 : Aside0 (y390.length + y393.length < 8796093022208) := ⟨by rw [hy390, hy387, hy393]; simp only [List.nil_append, List.length_singleton]; omega⟩
  have A11 : Aside0 (impl_CheckPath.f k ((rd_T26 l0 a1).f0) ((rd_T26 l0 a1).f1) a1 (l0.length : Int) y396 a3 = some false) := ⟨by rw [hy396, hy390, hy387, hy393, List.nil_append]; exact A110⟩
  clear A110 c9
  have Ny387 := Aside0.mk hy387
  clear hy387
  have Ny390 := Aside0.mk hy390
  clear hy390
  have Ny393 := Aside0.mk hy393
  clear hy393
  have Ny396 := Aside0.mk hy396
  clear hy396
  by_cases c40 : (l2.length : Int) = 0
  · rw [if_pos c40] at H
    have c40b0 : ((l2.length : Int) == 0) = true := beq_iff_eq.mpr c40
    have c40b1 : ((l2.length : Int) != 0) = false := bne_eq_false_iff_eq.mpr c40
    clear c40
    obtain rfl := Option.some.inj H
    go_enter Try.func6, Try.ntmps6
    go_wp2_with (first | ((with_reducible refine gate_callee (f := 7) rfl ?_); refine gl_ (some 8) Try.func7 #[.slice A9 s9.length c9] rfl al_ ?_; (with_reducible refine (laws_big.calls _ _ s9 false _ ?side1 ?side2 A2.out).mono ?_); (case side1 => exact kc_ HR9.out); (case side2 => exact HC9.out); rintro e w' ⟨rfl, ⟨nd, rfl⟩⟩; refine ⟨_, rfl, ?_⟩; skip) | ((with_reducible refine gate_callee (f := 30) rfl ?_); refine gl_ (some 11) Try.func30 #[.slice A9 s9.length c9] rfl al_ ?_; (with_reducible refine (spec_DrawPlace.calls k _ _ s9 l0 a1 _ ?side1 ?side2 A4.out).mono ?_); (case side1 => exact kc_ HR9.out); (case side2 => exact HC9.out); rintro e wa ⟨v0, rfl, ho0, hb⟩; refine ⟨_, rfl, ?_⟩; have HO0 := q_ (Kd.R_lower ho0 (below_size (be_ HU.out))); replace HU := q_ (below_step (be_ HU.out) hb); clear hb ho0; obtain ⟨A0, c0, eo0⟩ := Kd.R_slice HO0.out; subst eo0) | ((with_reducible refine gate_callee (f := 31) rfl ?_); refine gl_ (some 16) Try.func31 #[.slice A0 l0.length c0, .int .i64 a1] rfl al_ ?_; (with_reducible refine (impl_PathOf.calls k _ _ l0 a1 l2 _ ?side1 ?side2 A5.out).mono ?_); (case side1 => exact kc_ (Kd.R_reads' HO0.out).2.2); (case side2 => exact (Kd.R_reads' HO0.out).2.1); rintro e wb ⟨v2, rfl, ho0, hb⟩; refine ⟨_, rfl, ?_⟩; replace HO0 := q_ (Kd.R_below (kr_ HO0.out) hb); have HO2 := q_ (Kd.R_lower ho0 (below_size (be_ HU.out))); replace HU := q_ (below_step (be_ HU.out) hb); clear hb ho0) | ((with_reducible refine gate_callee (f := 14) rfl ?_); refine gl_ (some 18) Try.func14 #[.slice A0 l0.length c0] rfl al_ ?_; (with_reducible refine (impl_RootOf.calls k _ _ l0 a3 _ ?side1 ?side2 A6.out).mono ?_); (case side1 => exact kc_ (Kd.R_reads' HO0.out).2.2); (case side2 => exact (Kd.R_reads' HO0.out).2.1); rintro e w ⟨rfl, hb⟩; refine ⟨_, rfl, ?_⟩; replace HO0 := q_ (Kd.R_below (kr_ HO0.out) hb); replace HO2 := q_ (Kd.R_below (kr_ HO2.out) hb); replace HU := q_ (below_step (be_ HU.out) hb); clear hb; obtain ⟨A2, c2, eo2⟩ := Kd.R_slice HO2.out; subst eo2; have HR0 := q_ (Kd.R_reads' HO0.out).2.2; have HC0 := q_ (Kd.R_reads' HO0.out).2.1; have HR2 := q_ (Kd.R_reads' HO2.out).2.2; have HC2 := q_ (Kd.R_reads' HO2.out).2.1; have HB := q_ (Below.refl w.heap.size w); clear HO0 HO2))
    replace HB := q_ (below_drew1 HB.out)
    have p384 : 0 ≤ (a1 : Int) := od_
    have q384 : a1 < (l0.length : Int) := od_
    obtain ⟨ad384, e384, hx384_0, hx384_1⟩ := at_T26 HR0.out a1 p384 q384
    have hw384_1 := hx384_1
    have hw384_0 := hx384_0
    cases e384
    replace hx384_0 := (HB.out.cell (World.block_lt_of_cell? w _ hx384_0)).trans hx384_0
    replace hx384_1 := (HB.out.cell (World.block_lt_of_cell? w _ hx384_1)).trans hx384_1
    replace p384 := eq_true p384
    replace q384 := eq_true q384
    have p386 : 0 ≤ (a1 : Int) := od_
    have q386 : a1 < (l0.length : Int) := od_
    obtain ⟨ad386, e386, hx386_0, hx386_1⟩ := at_T26 HR0.out a1 p386 q386
    have hw386_1 := hx386_1
    have hw386_0 := hx386_0
    obtain rfl : ad384 = ad386 := (by injection e386)
    replace hx386_0 := (HB.out.cell (World.block_lt_of_cell? w _ hx386_0)).trans hx386_0
    replace hx386_1 := (HB.out.cell (World.block_lt_of_cell? w _ hx386_1)).trans hx386_1
    replace p386 := eq_true p386
    replace q386 := eq_true q386
    have p400 : 0 ≤ (a1 : Int) := od_
    have q400 : a1 < (l0.length : Int) := od_
    obtain ⟨ad400, e400, hx400_0, hx400_1⟩ := at_T26 HR0.out a1 p400 q400
    have hw400_1 := hx400_1
    have hw400_0 := hx400_0
    obtain rfl : ad384 = ad400 := (by injection e400)
    replace hx400_0 := (HB.out.cell (World.block_lt_of_cell? w _ hx400_0)).trans hx400_0
    replace hx400_1 := (HB.out.cell (World.block_lt_of_cell? w _ hx400_1)).trans hx400_1
    replace p400 := eq_true p400
    replace q400 := eq_true q400
    refine start_ (n := 40) (S := fun w' => w'.cell? (ad384.add ((a1).toNat * 2)) = some (.string ((rd_T26 l0 a1).f0)) ∧ w'.cell? ⟨(ad384.add ((a1).toNat * 2)).block, (ad384.add ((a1).toNat * 2)).off + 1, none⟩ = some (.string ((rd_T26 l0 a1).f1)) ∧ w'.cell? (ad384.add ((a1).toNat * 2)) = some (.string ((rd_T26 l0 a1).f0)) ∧ w'.cell? ⟨(ad384.add ((a1).toNat * 2)).block, (ad384.add ((a1).toNat * 2)).off + 1, none⟩ = some (.string ((rd_T26 l0 a1).f1)) ∧ w'.cell? (ad384.add ((a1).toNat * 2)) = some (.string ((rd_T26 l0 a1).f0)) ∧ w'.cell? ⟨(ad384.add ((a1).toNat * 2)).block, (ad384.add ((a1).toNat * 2)).off + 1, none⟩ = some (.string ((rd_T26 l0 a1).f1))) (ds := []) (bq_ 0 40) (by kernel_rfl) rfl rfl ⟨((HB.out.cell (World.block_lt_of_cell? w _ hw384_0)).trans hw384_0), ((HB.out.cell (World.block_lt_of_cell? w _ hw384_1)).trans hw384_1), ((HB.out.cell (World.block_lt_of_cell? w _ hw386_0)).trans hw386_0), ((HB.out.cell (World.block_lt_of_cell? w _ hw386_1)).trans hw386_1), ((HB.out.cell (World.block_lt_of_cell? w _ hw400_0)).trans hw400_0), ((HB.out.cell (World.block_lt_of_cell? w _ hw400_1)).trans hw400_1)⟩ (fun hHeld => ?_); refine with_tabW laws_FnPaths.tab6 laws_FnPaths.bits6 (fun HT_ HW_ => ?_)
    generalize w.drew = w41 at HB hx384_0 hx384_1 hx386_0 hx386_1 hx400_0 hx400_1 hHeld ⊢
    refine pu_ 0 (some 19) (bq_ 1 39) HT_ ?_
    refine pu_ 1 (some 20) (bq_ 2 38) HT_ ?_
    refine pu_ 2 (some 21) (bq_ 3 37) HT_ ?_
    refine pu_ 4 (some 23) (br_ [3, 1, 1, 35]) HT_ ?_
    refine pu_ 5 (some 24) (br_ [3, 1, 2, 34]) HT_ ?_
    refine pu_ 6 (some 25) (br_ [3, 1, 3, 33]) HT_ ?_
    refine pu_ 7 (some 26) (br_ [3, 1, 4, 32]) HT_ ?_
    refine pu_ 8 (some 27) (br_ [3, 1, 5, 31]) HT_ ?_
    refine take_ (i := 3) (N := some 22) (v := ?_) (a' := ?_) (bq_ 9 31) rfl rfl (take_ofW HT_.out HW_.out (by kernel_rfl)) (fun _ _ _ h => h) (Or.inl ⟨by rfl, ?_⟩) hHeld ?_ ?_
    rotate_left
    · rintro w' ⟨s0, s1, s2, s3, s4, s5⟩
      go_simp
      with_reducible rfl
    rotate_left
    · simp only [Act.put, sa_, sz_, ss_, i64_w, i32_w]; rfl
    refine on_ 9 (some 28) (bq_ 10 30) HT_ (fun K hK => ?_)
    refine goes_ Try.func13 (by kernel_rfl) rfl #[.agg #[.string ((rd_T26 l0 a1).f0), .string ((rd_T26 l0 a1).f1)], .int .i64 a1, .int .i64 (l0.length : Int), .slice A2 l2.length c2, .string a3] (by rfl) rfl rfl al_ ?_
    with_reducible refine (impl_CheckPath.calls k ((rd_T26 l0 a1).f0) ((rd_T26 l0 a1).f1) a1 (l0.length : Int) _ _ l2 a3 true _ ?side1 ?side2 A7.out).mono ?_
    (case side1 => exact kc_ (Kd.C_below HR2.out HB.out))
    (case side2 => exact HC2.out)
    rintro e w42 ⟨rfl, hb⟩
    refine ⟨_, rfl, ?_⟩
    replace HB := q_ (below_step (be_ HB.out) hb)
    (try clear hb)
    (try clear hb2)
    (try clear hk)
    (try clear hi)
    refine hK.out _ _ ⟨((HB.out.cell (World.block_lt_of_cell? w _ hw384_0)).trans hw384_0), ((HB.out.cell (World.block_lt_of_cell? w _ hw384_1)).trans hw384_1), ((HB.out.cell (World.block_lt_of_cell? w _ hw386_0)).trans hw386_0), ((HB.out.cell (World.block_lt_of_cell? w _ hw386_1)).trans hw386_1), ((HB.out.cell (World.block_lt_of_cell? w _ hw400_0)).trans hw400_0), ((HB.out.cell (World.block_lt_of_cell? w _ hw400_1)).trans hw400_1)⟩ (fun hHeld => ?_)
    clear hK K
    refine nm_ ?_
    refine pu_ 10 (some 29) (bq_ 11 29) HT_ ?_
    refine pu_ 11 (some 30) (bq_ 12 28) HT_ ?_
    refine pu_ 12 (some 31) (bq_ 13 27) HT_ ?_
    refine pu_ 13 (some 32) (bq_ 14 26) HT_ ?_
    refine pu_ 14 (some 33) (bq_ 15 25) HT_ ?_
    refine pu_ 16 (some 35) (br_ [15, 1, 1, 23]) HT_ ?_
    refine pu_ 17 (some 36) (br_ [15, 1, 2, 22]) HT_ ?_
    refine pu_ 18 (some 37) (br_ [15, 1, 3, 21]) HT_ ?_
    refine pu_ 20 (some 39) (br_ [15, 1, 3, 1, 1, 19]) HT_ ?_
    refine pu_ 24 (some 43) (br_ [15, 1, 3, 1, 1, 3, 1, 15]) HT_ ?_
    refine take_ (i := 15) (N := some 34) (v := ?_) (a' := ?_) (br_ [19, 1, 1, 3, 1, 15]) rfl rfl (take_ofW HT_.out HW_.out (by kernel_rfl)) (fun _ _ _ h => h) (Or.inl ⟨by rfl, ?_⟩) hHeld ?_ ?_
    rotate_left
    · rintro w' ⟨s0, s1, s2, s3, s4, s5⟩
      go_simp
      with_reducible rfl
    rotate_left
    · simp only [Act.put, sa_, sz_, ss_, i64_w, i32_w]; rfl
    refine join_ (σ := Value × Value × Value) 16 (br_ [23, 1, 1, 15]) (fun s_ => [(38, s_.1), (40, s_.2.1), (41, s_.2.2)]) (fun s_ w' => (w'.cell? (ad384.add ((a1).toNat * 2)) = some (.string ((rd_T26 l0 a1).f0)) ∧ w'.cell? ⟨(ad384.add ((a1).toNat * 2)).block, (ad384.add ((a1).toNat * 2)).off + 1, none⟩ = some (.string ((rd_T26 l0 a1).f1)) ∧ w'.cell? (ad384.add ((a1).toNat * 2)) = some (.string ((rd_T26 l0 a1).f0)) ∧ w'.cell? ⟨(ad384.add ((a1).toNat * 2)).block, (ad384.add ((a1).toNat * 2)).off + 1, none⟩ = some (.string ((rd_T26 l0 a1).f1)) ∧ w'.cell? (ad384.add ((a1).toNat * 2)) = some (.string ((rd_T26 l0 a1).f0)) ∧ w'.cell? ⟨(ad384.add ((a1).toNat * 2)).block, (ad384.add ((a1).toNat * 2)).off + 1, none⟩ = some (.string ((rd_T26 l0 a1).f1))) ∧ (Kd.R Kd.string 9 w' w.heap.size (fun k_ => some k_ ≠ (s_.2.2 : Value).ownBlock) s_.2.1 y390) ∧ (Kd.R Kd.string 9 w' w.heap.size (fun k_ => some k_ ≠ (s_.2.1 : Value).ownBlock) s_.2.2 y393) ∧ (Below w.heap.size w w')) ?_ ?_
    rotate_left
    · intro hCont
      refine two_ (i := 19) (j := 22) (Ni := some 38) (Nj := some 41) (br_ [21, 3, 1, 15]) (br_ [19, 1, 1, 1, 1, 1, 1, 15]) rfl rfl rfl rfl (two_of HT_.out (by kernel_rfl)) (by decide) (by decide) (fun K hK => ?_) (fun K hK => ?_)
      · skip
        refine Kd.R_lit_step Kd.string _ 9 ?hg (N := 38) ?hd (xs := ([] : List ByteArray)) (inner := []) (ok := fun _ => True) (okp := fun _ => True) ?hr ?hp (fun _ hk => hk) trivial (Below.refl _ _) (Nat.le_refl _) (by simp) ?_; (case hd => rfl); (case hg => rfl); (case hr => first | (go_simp; done) | (go_simp; rfl)); (case hp => exact (Reps.none _ _))
        intro v388 w43 ho44 hb hg_ hnew_
        clear hg_ hnew_
        (first | rw [← Ny387.out] at ho44 | (simp only [Int.reduceToNat] at ho44; rw [← Ny387.out] at ho44))
        have HO389 := q_ (Kd.R_lower ho44 (below_size (be_ HB.out)))
        replace HB := q_ (below_step (be_ HB.out) hb)
        clear hb ho44
        refine hK.out _ _ ⟨((HB.out.cell (World.block_lt_of_cell? w _ hw384_0)).trans hw384_0), ((HB.out.cell (World.block_lt_of_cell? w _ hw384_1)).trans hw384_1), ((HB.out.cell (World.block_lt_of_cell? w _ hw386_0)).trans hw386_0), ((HB.out.cell (World.block_lt_of_cell? w _ hw386_1)).trans hw386_1), ((HB.out.cell (World.block_lt_of_cell? w _ hw400_0)).trans hw400_0), ((HB.out.cell (World.block_lt_of_cell? w _ hw400_1)).trans hw400_1)⟩ (fun hHeld => ?_)
        clear hK K
        refine nm_ ?_
        refine two_ (i := 21) (j := 22) (Ni := some 40) (Nj := some 41) (br_ [22, 2, 1, 15]) (br_ [21, 1, 1, 1, 1, 15]) rfl rfl rfl rfl (two_of HT_.out (by kernel_rfl)) (by decide) (by decide) (fun K hK => ?_) (fun K hK => ?_)
        · skip
          refine Kd.R_append_rows_step Kd.string (w0 := w) w.heap.size (by rfl) (.tmp 38) (.tmp 39) 27 9 (.string ⟨#[]⟩) 16 rfl Try.underlying27 info9 rfl (by decide) (by omega) v388 y387 l2 _ _ _ (fun _ => True) (fun _ => False) rfl rfl ?aO ?aR (fun _ _ h => h) (fun _ h => h.elim) ?aF ?aB ?aS ?aL ?_
          (case aR => exact kc_ (Kd.C_below HR2.out HB.out))
          (case aB => exact (be_ HB.out))
          (case aF => exact (fun _ _ => trivial))
          (case aO => exact (kr_ HO389.out))
          (case aS => exact (below_size (be_ HB.out)))
          (case aL => have := LMc9.out; omega)
          intro v391 w45 ho hb hg hat
          rw [← Ny390.out] at ho
          have n0_ := q_ (hb)
          have n1_ := q_ (ho)
          clear HB
          clear HO389
          have HB := n0_
          have HO392 := n1_
          clear n0_ n1_
          clear ho hb hg hat
          refine hK.out _ _ ⟨((HB.out.cell (World.block_lt_of_cell? w _ hw384_0)).trans hw384_0), ((HB.out.cell (World.block_lt_of_cell? w _ hw384_1)).trans hw384_1), ((HB.out.cell (World.block_lt_of_cell? w _ hw386_0)).trans hw386_0), ((HB.out.cell (World.block_lt_of_cell? w _ hw386_1)).trans hw386_1), ((HB.out.cell (World.block_lt_of_cell? w _ hw400_0)).trans hw400_0), ((HB.out.cell (World.block_lt_of_cell? w _ hw400_1)).trans hw400_1)⟩ (fun hHeld => ?_)
          clear hK K
          refine nm_ ?_
          refine on_ 22 (some 41) (br_ [23, 1, 1, 15]) HT_ (fun K hK => ?_)
          refine Kd.R_lit_step Kd.string _ 9 ?hg (N := 41) ?hd (xs := ([(⟨#[120]⟩ : ByteArray)] : List ByteArray)) (inner := [.string (⟨#[120]⟩ : ByteArray)]) (ok := fun _ => True) (okp := fun _ => True) ?hr ?hp (fun _ hk => hk) trivial (Below.refl _ _) (Nat.le_refl _) (by simp) ?_; (case hd => rfl); (case hg => rfl); (case hr => first | (go_simp; done) | (go_simp; rfl)); (case hp => exact (Reps.one (show Kd.M Kd.string _ _ _ (⟨#[120]⟩ : ByteArray) [.string (⟨#[120]⟩ : ByteArray)] from rfl) (Reps.none _ _)))
          intro v394 w46 ho47 hb hg_ hnew_
          clear hg_ hnew_
          (first | rw [← Ny393.out] at ho47 | (simp only [Int.reduceToNat] at ho47; rw [← Ny393.out] at ho47))
          have HO395 := q_ (Kd.R_lower (Kd.R_new' ho47 (Kd.R_lt (kr_ HO392.out))) (below_size (be_ HB.out)))
          replace HO392 := q_ (Kd.R_elder' (kr_ HO392.out) (Kd.R_base ho47) hb)
          replace HB := q_ (below_step (be_ HB.out) hb)
          clear hb ho47
          refine hK.out _ _ ⟨((HB.out.cell (World.block_lt_of_cell? w _ hw384_0)).trans hw384_0), ((HB.out.cell (World.block_lt_of_cell? w _ hw384_1)).trans hw384_1), ((HB.out.cell (World.block_lt_of_cell? w _ hw386_0)).trans hw386_0), ((HB.out.cell (World.block_lt_of_cell? w _ hw386_1)).trans hw386_1), ((HB.out.cell (World.block_lt_of_cell? w _ hw400_0)).trans hw400_0), ((HB.out.cell (World.block_lt_of_cell? w _ hw400_1)).trans hw400_1)⟩ (fun hHeld => ?_)
          clear hK K
          refine nm_ ?_
          exact norm_ (by simp only [putAll, Act.put, sa_, sz_, ss_]) (hCont (v388, v391, v394) _ ⟨hHeld, (by (with_reducible repeat (first | apply Kd.R_alloc | apply Kd.R_drewN | apply Kd.R_drew)); exact Kd.R_mono HO392.out (fun _ hk => hk.2)), (by (with_reducible repeat (first | apply Kd.R_alloc | apply Kd.R_drewN | apply Kd.R_drew)); exact Kd.R_mono HO395.out (fun _ hk => hk.2)), (be_ HB.out)⟩)
        · skip
          refine Kd.R_lit_step Kd.string _ 9 ?hg (N := 41) ?hd (xs := ([(⟨#[120]⟩ : ByteArray)] : List ByteArray)) (inner := [.string (⟨#[120]⟩ : ByteArray)]) (ok := fun _ => True) (okp := fun _ => True) ?hr ?hp (fun _ hk => hk) trivial (Below.refl _ _) (Nat.le_refl _) (by simp) ?_; (case hd => rfl); (case hg => rfl); (case hr => first | (go_simp; done) | (go_simp; rfl)); (case hp => exact (Reps.one (show Kd.M Kd.string _ _ _ (⟨#[120]⟩ : ByteArray) [.string (⟨#[120]⟩ : ByteArray)] from rfl) (Reps.none _ _)))
          intro v394 w45 ho46 hb hg_ hnew_
          clear hg_ hnew_
          (first | rw [← Ny393.out] at ho46 | (simp only [Int.reduceToNat] at ho46; rw [← Ny393.out] at ho46))
          have HO395 := q_ (Kd.R_lower (Kd.R_new' ho46 (Kd.R_lt (kr_ HO389.out))) (below_size (be_ HB.out)))
          replace HO389 := q_ (Kd.R_elder' (kr_ HO389.out) (Kd.R_base ho46) hb)
          replace HB := q_ (below_step (be_ HB.out) hb)
          clear hb ho46
          refine hK.out _ _ ⟨((HB.out.cell (World.block_lt_of_cell? w _ hw384_0)).trans hw384_0), ((HB.out.cell (World.block_lt_of_cell? w _ hw384_1)).trans hw384_1), ((HB.out.cell (World.block_lt_of_cell? w _ hw386_0)).trans hw386_0), ((HB.out.cell (World.block_lt_of_cell? w _ hw386_1)).trans hw386_1), ((HB.out.cell (World.block_lt_of_cell? w _ hw400_0)).trans hw400_0), ((HB.out.cell (World.block_lt_of_cell? w _ hw400_1)).trans hw400_1)⟩ (fun hHeld => ?_)
          clear hK K
          refine nm_ ?_
          refine on_ 21 (some 40) (br_ [23, 1, 1, 15]) HT_ (fun K hK => ?_)
          refine Kd.R_append_rows_step Kd.string (w0 := w) w.heap.size (by rfl) (.tmp 38) (.tmp 39) 27 9 (.string ⟨#[]⟩) 16 rfl Try.underlying27 info9 rfl (by decide) (by omega) v388 y387 l2 _ _ _ (fun k_ => some k_ ≠ (v394 : Value).ownBlock) (fun _ => False) rfl rfl ?aO ?aR (fun _ _ h => h) (fun _ h => h.elim) ?aF ?aB ?aS ?aL ?_
          (case aR => exact kc_ (Kd.C_below HR2.out HB.out))
          (case aB => exact (be_ HB.out))
          (case aF => exact (fun k_ hk => Kd.fresh' (Kd.R_lt (kr_ HO395.out)) k_ hk))
          (case aO => exact (by (with_reducible repeat (first | apply Kd.R_alloc | apply Kd.R_drewN | apply Kd.R_drew)); exact Kd.R_mono HO389.out (fun _ hk => hk.2)))
          (case aS => exact (below_size (be_ HB.out)))
          (case aL => have := LMc9.out; omega)
          intro v391 w47 ho hb hg hat
          rw [← Ny390.out] at ho
          have n0_ := q_ (Kd.R_after (ok := (fun _ => True)) (kr_ HO395.out) hg hat)
          have n1_ := q_ (hb)
          have n2_ := q_ (ho)
          clear HO395
          clear HB
          clear HO389
          have HO395 := n0_
          have HB := n1_
          have HO392 := n2_
          clear n0_ n1_ n2_
          clear ho hb hg hat
          refine hK.out _ _ ⟨((HB.out.cell (World.block_lt_of_cell? w _ hw384_0)).trans hw384_0), ((HB.out.cell (World.block_lt_of_cell? w _ hw384_1)).trans hw384_1), ((HB.out.cell (World.block_lt_of_cell? w _ hw386_0)).trans hw386_0), ((HB.out.cell (World.block_lt_of_cell? w _ hw386_1)).trans hw386_1), ((HB.out.cell (World.block_lt_of_cell? w _ hw400_0)).trans hw400_0), ((HB.out.cell (World.block_lt_of_cell? w _ hw400_1)).trans hw400_1)⟩ (fun hHeld => ?_)
          clear hK K
          refine nm_ ?_
          exact norm_ (by simp only [putAll, Act.put, sa_, sz_, ss_]) (hCont (v388, v391, v394) _ ⟨hHeld, (kr_ HO392.out), (by (with_reducible repeat (first | apply Kd.R_alloc | apply Kd.R_drewN | apply Kd.R_drew)); exact Kd.R_mono HO395.out (fun _ hk => hk.2)), (be_ HB.out)⟩)
      · skip
        refine Kd.R_lit_step Kd.string _ 9 ?hg (N := 41) ?hd (xs := ([(⟨#[120]⟩ : ByteArray)] : List ByteArray)) (inner := [.string (⟨#[120]⟩ : ByteArray)]) (ok := fun _ => True) (okp := fun _ => True) ?hr ?hp (fun _ hk => hk) trivial (Below.refl _ _) (Nat.le_refl _) (by simp) ?_; (case hd => rfl); (case hg => rfl); (case hr => first | (go_simp; done) | (go_simp; rfl)); (case hp => exact (Reps.one (show Kd.M Kd.string _ _ _ (⟨#[120]⟩ : ByteArray) [.string (⟨#[120]⟩ : ByteArray)] from rfl) (Reps.none _ _)))
        intro v394 w43 ho44 hb hg_ hnew_
        clear hg_ hnew_
        (first | rw [← Ny393.out] at ho44 | (simp only [Int.reduceToNat] at ho44; rw [← Ny393.out] at ho44))
        have HO395 := q_ (Kd.R_lower ho44 (below_size (be_ HB.out)))
        replace HB := q_ (below_step (be_ HB.out) hb)
        clear hb ho44
        refine hK.out _ _ ⟨((HB.out.cell (World.block_lt_of_cell? w _ hw384_0)).trans hw384_0), ((HB.out.cell (World.block_lt_of_cell? w _ hw384_1)).trans hw384_1), ((HB.out.cell (World.block_lt_of_cell? w _ hw386_0)).trans hw386_0), ((HB.out.cell (World.block_lt_of_cell? w _ hw386_1)).trans hw386_1), ((HB.out.cell (World.block_lt_of_cell? w _ hw400_0)).trans hw400_0), ((HB.out.cell (World.block_lt_of_cell? w _ hw400_1)).trans hw400_1)⟩ (fun hHeld => ?_)
        clear hK K
        refine nm_ ?_
        refine on_ 19 (some 38) (br_ [21, 1, 1, 1, 1, 15]) HT_ (fun K hK => ?_)
        refine Kd.R_lit_step Kd.string _ 9 ?hg (N := 38) ?hd (xs := ([] : List ByteArray)) (inner := []) (ok := fun _ => True) (okp := fun _ => True) ?hr ?hp (fun _ hk => hk) trivial (Below.refl _ _) (Nat.le_refl _) (by simp) ?_; (case hd => rfl); (case hg => rfl); (case hr => first | (go_simp; done) | (go_simp; rfl)); (case hp => exact (Reps.none _ _))
        intro v388 w45 ho46 hb hg_ hnew_
        clear hg_ hnew_
        (first | rw [← Ny387.out] at ho46 | (simp only [Int.reduceToNat] at ho46; rw [← Ny387.out] at ho46))
        have HO389 := q_ (Kd.R_lower (Kd.R_new' ho46 (Kd.R_lt (kr_ HO395.out))) (below_size (be_ HB.out)))
        replace HO395 := q_ (Kd.R_elder' (kr_ HO395.out) (Kd.R_base ho46) hb)
        replace HB := q_ (below_step (be_ HB.out) hb)
        clear hb ho46
        refine hK.out _ _ ⟨((HB.out.cell (World.block_lt_of_cell? w _ hw384_0)).trans hw384_0), ((HB.out.cell (World.block_lt_of_cell? w _ hw384_1)).trans hw384_1), ((HB.out.cell (World.block_lt_of_cell? w _ hw386_0)).trans hw386_0), ((HB.out.cell (World.block_lt_of_cell? w _ hw386_1)).trans hw386_1), ((HB.out.cell (World.block_lt_of_cell? w _ hw400_0)).trans hw400_0), ((HB.out.cell (World.block_lt_of_cell? w _ hw400_1)).trans hw400_1)⟩ (fun hHeld => ?_)
        clear hK K
        refine nm_ ?_
        refine on_ 21 (some 40) (br_ [23, 1, 1, 15]) HT_ (fun K hK => ?_)
        refine Kd.R_append_rows_step Kd.string (w0 := w) w.heap.size (by rfl) (.tmp 38) (.tmp 39) 27 9 (.string ⟨#[]⟩) 16 rfl Try.underlying27 info9 rfl (by decide) (by omega) v388 y387 l2 _ _ _ (fun k_ => some k_ ≠ (v394 : Value).ownBlock) (fun _ => False) rfl rfl ?aO ?aR (fun _ _ h => h) (fun _ h => h.elim) ?aF ?aB ?aS ?aL ?_
        (case aR => exact kc_ (Kd.C_below HR2.out HB.out))
        (case aB => exact (be_ HB.out))
        (case aF => exact (fun k_ hk => Kd.fresh' (Kd.R_lt (kr_ HO395.out)) k_ hk))
        (case aO => exact (by (with_reducible repeat (first | apply Kd.R_alloc | apply Kd.R_drewN | apply Kd.R_drew)); exact Kd.R_mono HO389.out (fun _ hk => hk.2)))
        (case aS => exact (below_size (be_ HB.out)))
        (case aL => have := LMc9.out; omega)
        intro v391 w47 ho hb hg hat
        rw [← Ny390.out] at ho
        have n0_ := q_ (Kd.R_after (ok := (fun _ => True)) (kr_ HO395.out) hg hat)
        have n1_ := q_ (hb)
        have n2_ := q_ (ho)
        clear HO395
        clear HB
        clear HO389
        have HO395 := n0_
        have HB := n1_
        have HO392 := n2_
        clear n0_ n1_ n2_
        clear ho hb hg hat
        refine hK.out _ _ ⟨((HB.out.cell (World.block_lt_of_cell? w _ hw384_0)).trans hw384_0), ((HB.out.cell (World.block_lt_of_cell? w _ hw384_1)).trans hw384_1), ((HB.out.cell (World.block_lt_of_cell? w _ hw386_0)).trans hw386_0), ((HB.out.cell (World.block_lt_of_cell? w _ hw386_1)).trans hw386_1), ((HB.out.cell (World.block_lt_of_cell? w _ hw400_0)).trans hw400_0), ((HB.out.cell (World.block_lt_of_cell? w _ hw400_1)).trans hw400_1)⟩ (fun hHeld => ?_)
        clear hK K
        refine nm_ ?_
        exact norm_ (by simp only [putAll, Act.put, sa_, sz_, ss_]) (hCont (v388, v391, v394) _ ⟨hHeld, (kr_ HO392.out), (by (with_reducible repeat (first | apply Kd.R_alloc | apply Kd.R_drewN | apply Kd.R_drew)); exact Kd.R_mono HO395.out (fun _ hk => hk.2)), (be_ HB.out)⟩)
    rintro ⟨v388, v391, v394⟩ w48 ⟨hS_, h0_, h1_, h2_⟩
    have n0_ : Aside0 (Kd.R Kd.string 9 w48 w.heap.size (fun k_ => some k_ ≠ (v394 : Value).ownBlock) v391 y390) := ⟨h0_⟩
    have n1_ : Aside0 (Kd.R Kd.string 9 w48 w.heap.size (fun k_ => some k_ ≠ (v391 : Value).ownBlock) v394 y393) := ⟨h1_⟩
    have n2_ : Aside0 (Below w.heap.size w w48) := ⟨h2_⟩
    clear HB
    clear h0_ h1_ h2_
    have HO392 := n0_
    have HO395 := n1_
    have HB := n2_
    clear n0_ n1_ n2_
    have hHeld : w48.cell? (ad384.add ((a1).toNat * 2)) = some (.string ((rd_T26 l0 a1).f0)) ∧ w48.cell? ⟨(ad384.add ((a1).toNat * 2)).block, (ad384.add ((a1).toNat * 2)).off + 1, none⟩ = some (.string ((rd_T26 l0 a1).f1)) ∧ w48.cell? (ad384.add ((a1).toNat * 2)) = some (.string ((rd_T26 l0 a1).f0)) ∧ w48.cell? ⟨(ad384.add ((a1).toNat * 2)).block, (ad384.add ((a1).toNat * 2)).off + 1, none⟩ = some (.string ((rd_T26 l0 a1).f1)) ∧ w48.cell? (ad384.add ((a1).toNat * 2)) = some (.string ((rd_T26 l0 a1).f0)) ∧ w48.cell? ⟨(ad384.add ((a1).toNat * 2)).block, (ad384.add ((a1).toNat * 2)).off + 1, none⟩ = some (.string ((rd_T26 l0 a1).f1)) := hS_
    obtain ⟨Ao50, co50, eo50⟩ := Kd.R_slice HO395.out
    (first | subst eo50 | (injection eo50 with f1_ f2_ f3_; have f4_ := f1_.symm; have f5_ := f3_.symm; clear f1_ f2_ f3_; subst f4_; subst f5_))
    refine norm_ (a' := ?_) ?_ ?_
    rotate_left
    · simp only [putAll, Act.put, sa_, sz_, ss_]
      rfl
    refine on_ 23 (some 42) (bq_ 25 15) HT_ (fun K hK => ?_)
    refine Kd.R_append_rows_step Kd.string (w0 := w) w.heap.size (by rfl) (.tmp 40) (.tmp 41) 27 9 (.string ⟨#[]⟩) 16 rfl Try.underlying27 info9 rfl (by decide) (by omega) v391 y390 y393 _ _ _ (fun k_ => some k_ ≠ (.slice Ao50 y393.length co50 : Value).ownBlock) (fun _ => False) rfl rfl ?aO ?aR (fun _ _ h => h) (fun _ h => h.elim) ?aF ?aB ?aS ?aL ?_
    (case aR => exact kc_ (Kd.R_reads' HO395.out).2.2)
    (case aB => exact (be_ HB.out))
    (case aF => exact (fun k_ hk => Kd.fresh' (Kd.R_lt (kr_ HO395.out)) k_ hk))
    (case aO => exact (kr_ HO392.out))
    (case aS => exact (below_size (be_ HB.out)))
    (case aL => have := LMc10.out; omega)
    intro v397 w49 ho hb hg hat
    rw [← Ny396.out] at ho
    have n0_ := q_ (Kd.R_after (ok := (fun _ => True)) (by (with_reducible repeat (first | apply Kd.R_alloc | apply Kd.R_drewN | apply Kd.R_drew)); exact Kd.R_mono HO395.out (fun _ hk => ⟨trivial, hk⟩)) hg hat)
    have n1_ := q_ (hb)
    have n2_ := q_ (ho)
    clear HO395
    clear HB
    clear HO392
    have HO395 := n0_
    have HB := n1_
    have HO398 := n2_
    clear n0_ n1_ n2_
    clear ho hb hg hat
    obtain ⟨Ao51, co51, eo51⟩ := Kd.R_slice HO398.out
    (first | subst eo51 | (injection eo51 with f1_ f2_ f3_; have f4_ := f1_.symm; have f5_ := f3_.symm; clear f1_ f2_ f3_; subst f4_; subst f5_))
    refine hK.out _ _ ⟨((HB.out.cell (World.block_lt_of_cell? w _ hw384_0)).trans hw384_0), ((HB.out.cell (World.block_lt_of_cell? w _ hw384_1)).trans hw384_1), ((HB.out.cell (World.block_lt_of_cell? w _ hw386_0)).trans hw386_0), ((HB.out.cell (World.block_lt_of_cell? w _ hw386_1)).trans hw386_1), ((HB.out.cell (World.block_lt_of_cell? w _ hw400_0)).trans hw400_0), ((HB.out.cell (World.block_lt_of_cell? w _ hw400_1)).trans hw400_1)⟩ (fun hHeld => ?_)
    clear hK K
    refine nm_ ?_
    refine on_ 25 (some 44) (bq_ 26 14) HT_ (fun K hK => ?_)
    refine goes_ Try.func13 (by kernel_rfl) rfl #[.agg #[.string ((rd_T26 l0 a1).f0), .string ((rd_T26 l0 a1).f1)], .int .i64 a1, .int .i64 (l0.length : Int), .slice Ao51 y396.length co51, .string a3] (by rfl) rfl rfl al_ ?_
    with_reducible refine (impl_CheckPath.calls k ((rd_T26 l0 a1).f0) ((rd_T26 l0 a1).f1) a1 (l0.length : Int) _ _ y396 a3 false _ ?side1 ?side2 A11.out).mono ?_
    (case side1 => exact kc_ (Kd.R_reads' HO398.out).2.2)
    (case side2 => exact (Kd.R_reads' HO398.out).2.1)
    rintro e w52 ⟨rfl, hb⟩
    refine ⟨_, rfl, ?_⟩
    replace HO395 := q_ (Kd.R_below (kr_ HO395.out) hb)
    replace HO398 := q_ (Kd.R_below (kr_ HO398.out) hb)
    replace HB := q_ (below_step (be_ HB.out) hb)
    (try clear hb)
    (try clear hb2)
    (try clear hk)
    (try clear hi)
    refine hK.out _ _ ⟨((HB.out.cell (World.block_lt_of_cell? w _ hw384_0)).trans hw384_0), ((HB.out.cell (World.block_lt_of_cell? w _ hw384_1)).trans hw384_1), ((HB.out.cell (World.block_lt_of_cell? w _ hw386_0)).trans hw386_0), ((HB.out.cell (World.block_lt_of_cell? w _ hw386_1)).trans hw386_1), ((HB.out.cell (World.block_lt_of_cell? w _ hw400_0)).trans hw400_0), ((HB.out.cell (World.block_lt_of_cell? w _ hw400_1)).trans hw400_1)⟩ (fun hHeld => ?_)
    clear hK K
    refine nm_ ?_
    refine pu_ 26 (some 45) (bq_ 27 13) HT_ ?_
    refine pu_ 27 (some 46) (bq_ 28 12) HT_ ?_
    refine pu_ 28 (some 47) (bq_ 29 11) HT_ ?_
    refine pu_ 29 (some 48) (bq_ 30 10) HT_ ?_
    refine pu_ 30 (some 49) (bq_ 31 9) HT_ ?_
    refine pu_ 32 (some 51) (br_ [31, 1, 1, 7]) HT_ ?_
    refine pu_ 33 (some 52) (br_ [31, 1, 2, 6]) HT_ ?_
    refine pu_ 34 (some 53) (br_ [31, 1, 3, 5]) HT_ ?_
    refine pu_ 35 (some 54) (br_ [31, 1, 4, 4]) HT_ ?_
    refine pu_ 36 (some 55) (br_ [31, 1, 5, 3]) HT_ ?_
    refine pu_ 37 (some 56) (br_ [31, 1, 6, 2]) HT_ ?_
    refine take_ (i := 31) (N := some 50) (v := ?_) (a' := ?_) (bq_ 38 2) rfl rfl (take_ofW HT_.out HW_.out (by kernel_rfl)) (fun _ _ _ h => h) (Or.inl ⟨by rfl, ?_⟩) hHeld ?_ ?_
    rotate_left
    · rintro w' ⟨s0, s1, s2, s3, s4, s5⟩
      go_simp
      with_reducible rfl
    rotate_left
    · simp only [Act.put, sa_, sz_, ss_, i64_w, i32_w]; rfl
    refine on_ 38 (some 57) (bq_ 39 1) HT_ (fun K hK => ?_)
    refine goes_ Try.func13 (by kernel_rfl) rfl #[.agg #[.string ((rd_T26 l0 a1).f0), .string ((rd_T26 l0 a1).f1)], .int .i64 (l0.length : Int), .int .i64 (l0.length : Int), .slice A2 l2.length c2, .string a3] (by rfl) rfl rfl al_ ?_
    with_reducible refine (impl_CheckPath.calls k ((rd_T26 l0 a1).f0) ((rd_T26 l0 a1).f1) (l0.length : Int) (l0.length : Int) _ _ l2 a3 false _ ?side1 ?side2 A25.out).mono ?_
    (case side1 => exact kc_ (Kd.C_below HR2.out HB.out))
    (case side2 => exact HC2.out)
    rintro e w53 ⟨rfl, hb⟩
    refine ⟨_, rfl, ?_⟩
    replace HO395 := q_ (Kd.R_below (kr_ HO395.out) hb)
    replace HO398 := q_ (Kd.R_below (kr_ HO398.out) hb)
    replace HB := q_ (below_step (be_ HB.out) hb)
    (try clear hb)
    (try clear hb2)
    (try clear hk)
    (try clear hi)
    refine hK.out _ _ ⟨((HB.out.cell (World.block_lt_of_cell? w _ hw384_0)).trans hw384_0), ((HB.out.cell (World.block_lt_of_cell? w _ hw384_1)).trans hw384_1), ((HB.out.cell (World.block_lt_of_cell? w _ hw386_0)).trans hw386_0), ((HB.out.cell (World.block_lt_of_cell? w _ hw386_1)).trans hw386_1), ((HB.out.cell (World.block_lt_of_cell? w _ hw400_0)).trans hw400_0), ((HB.out.cell (World.block_lt_of_cell? w _ hw400_1)).trans hw400_1)⟩ (fun hHeld => ?_)
    clear hK K
    refine nm_ ?_
    refine pu_ 39 (some 58) (bq_ 40 0) HT_ ?_
    refine done_ (done_of HT_.out (by kernel_rfl)) ?_
    try go_wp2
    replace HO395 := q_ (Kd.R_drew HO395.out)
    replace HO398 := q_ (Kd.R_drew HO398.out)
    replace HB := q_ (below_drew1 HB.out)
    refine start_ (n := 18) (S := fun w' => True) (ds := []) (bq_ 0 18) (by kernel_rfl) rfl rfl trivial (fun hHeld => ?_); refine with_tabW laws_FnPaths.tab8 laws_FnPaths.bits8 (fun HT_ HW_ => ?_)
    generalize w53.drew = w54 at HO395 HO398 HB hHeld ⊢
    refine pu_ 0 (some 59) (bq_ 1 17) HT_ ?_
    refine pu_ 1 (some 60) (bq_ 2 16) HT_ ?_
    refine pu_ 2 (some 61) (bq_ 3 15) HT_ ?_
    refine pu_ 3 (some 62) (bq_ 4 14) HT_ ?_
    refine pure_ (i := 4) (N := some 63) (v := undef) (a' := ?_) (bq_ 5 13) rfl rfl (any_of HT_.out (by kernel_rfl)) (fun _ _ _ h => h) (Or.inr ⟨by rfl, rfl⟩) ?_ ?_
    rotate_left
    · simp only [Act.put, sa_, sz_, ss_, i64_w, i32_w]; rfl
    refine pure_ (i := 5) (N := some 64) (v := undef) (a' := ?_) (bq_ 6 12) rfl rfl (any_of HT_.out (by kernel_rfl)) (fun _ _ _ h => h) (Or.inr ⟨by rfl, rfl⟩) ?_ ?_
    rotate_left
    · simp only [Act.put, sa_, sz_, ss_, i64_w, i32_w]; rfl
    refine pure_ (i := 6) (N := some 65) (v := undef) (a' := ?_) (bq_ 7 11) rfl rfl (any_of HT_.out (by kernel_rfl)) (fun _ _ _ h => h) (Or.inr ⟨by rfl, rfl⟩) ?_ ?_
    rotate_left
    · simp only [Act.put, sa_, sz_, ss_, i64_w, i32_w]; rfl
    refine pure_ (i := 7) (N := some 66) (v := undef) (a' := ?_) (bq_ 8 10) rfl rfl (any_of HT_.out (by kernel_rfl)) (fun _ _ _ h => h) (Or.inr ⟨by rfl, rfl⟩) ?_ ?_
    rotate_left
    · simp only [Act.put, sa_, sz_, ss_, i64_w, i32_w]; rfl
    refine pure_ (i := 8) (N := some 67) (v := undef) (a' := ?_) (bq_ 9 9) rfl rfl (any_of HT_.out (by kernel_rfl)) (fun _ _ _ h => h) (Or.inr ⟨by rfl, rfl⟩) ?_ ?_
    rotate_left
    · simp only [Act.put, sa_, sz_, ss_, i64_w, i32_w]; rfl
    refine pure_ (i := 9) (N := some 68) (v := undef) (a' := ?_) (bq_ 10 8) rfl rfl (any_of HT_.out (by kernel_rfl)) (fun _ _ _ h => h) (Or.inr ⟨by rfl, rfl⟩) ?_ ?_
    rotate_left
    · simp only [Act.put, sa_, sz_, ss_, i64_w, i32_w]; rfl
    refine pure_ (i := 10) (N := some 69) (v := undef) (a' := ?_) (bq_ 11 7) rfl rfl (any_of HT_.out (by kernel_rfl)) (fun _ _ _ h => h) (Or.inr ⟨by rfl, rfl⟩) ?_ ?_
    rotate_left
    · simp only [Act.put, sa_, sz_, ss_, i64_w, i32_w]; rfl
    refine pure_ (i := 11) (N := some 70) (v := undef) (a' := ?_) (bq_ 12 6) rfl rfl (any_of HT_.out (by kernel_rfl)) (fun _ _ _ h => h) (Or.inr ⟨by rfl, rfl⟩) ?_ ?_
    rotate_left
    · simp only [Act.put, sa_, sz_, ss_, i64_w, i32_w]; rfl
    refine pure_ (i := 12) (N := some 71) (v := undef) (a' := ?_) (bq_ 13 5) rfl rfl (any_of HT_.out (by kernel_rfl)) (fun _ _ _ h => h) (Or.inr ⟨by rfl, rfl⟩) ?_ ?_
    rotate_left
    · simp only [Act.put, sa_, sz_, ss_, i64_w, i32_w]; rfl
    refine pure_ (i := 13) (N := some 72) (v := undef) (a' := ?_) (bq_ 14 4) rfl rfl (any_of HT_.out (by kernel_rfl)) (fun _ _ _ h => h) (Or.inr ⟨by rfl, rfl⟩) ?_ ?_
    rotate_left
    · simp only [Act.put, sa_, sz_, ss_, i64_w, i32_w]; rfl
    refine pure_ (i := 14) (N := some 73) (v := undef) (a' := ?_) (bq_ 15 3) rfl rfl (any_of HT_.out (by kernel_rfl)) (fun _ _ _ h => h) (Or.inr ⟨by rfl, rfl⟩) ?_ ?_
    rotate_left
    · simp only [Act.put, sa_, sz_, ss_, i64_w, i32_w]; rfl
    refine pure_ (i := 15) (N := some 74) (v := undef) (a' := ?_) (bq_ 16 2) rfl rfl (any_of HT_.out (by kernel_rfl)) (fun _ _ _ h => h) (Or.inr ⟨by rfl, rfl⟩) ?_ ?_
    rotate_left
    · simp only [Act.put, sa_, sz_, ss_, i64_w, i32_w]; rfl
    refine pu_ 16 (some 75) (bq_ 17 1) HT_ ?_
    refine pu_ 17 (some 2) (bq_ 18 0) HT_ ?_
    refine done_ (done_of HT_.out (by kernel_rfl)) ?_
    try go_wp2
    go_ret
    exact ⟨rf_, below_step HU.out (be_ HB.out)⟩
  · rw [if_neg c40] at H
    have c40b0 : ((l2.length : Int) == 0) = false := beq_eq_false_iff_ne.mpr c40
    have c40b1 : ((l2.length : Int) != 0) = true := bne_iff_ne.mpr c40
    have c40b2 : ¬ (l2 = []) := fun h_ => c40 (by rw [h_]; rfl)
    by_cases c55 : 1 ≤ (l2.length : Int)
    rotate_left
    · rw [if_neg c55] at H; exact absurd H (by simp)
    rw [if_pos c55] at H
    have c55b0 := eq_true c55
    have c55b1 : decide (1 ≤ (l2.length : Int)) = true := decide_eq_true c55
    clear c55
    replace H := Option.bind_eq_some_iff.mp H
    obtain ⟨td, A560, H⟩ := H
    by_cases c56 : td = true
    · rw [if_pos c56] at H; exact absurd H (by simp)
    rw [if_neg c56] at H
    replace c56 := Bool.eq_false_iff.mpr c56
    subst c56
    have A56 := Aside0.mk A560
    clear A560
    obtain rfl := Option.some.inj H
    go_enter Try.func6, Try.ntmps6
    go_wp2_with (first | ((with_reducible refine gate_callee (f := 7) rfl ?_); refine gl_ (some 8) Try.func7 #[.slice A9 s9.length c9] rfl al_ ?_; (with_reducible refine (laws_big.calls _ _ s9 false _ ?side1 ?side2 A2.out).mono ?_); (case side1 => exact kc_ HR9.out); (case side2 => exact HC9.out); rintro e w' ⟨rfl, ⟨nd, rfl⟩⟩; refine ⟨_, rfl, ?_⟩; skip) | ((with_reducible refine gate_callee (f := 30) rfl ?_); refine gl_ (some 11) Try.func30 #[.slice A9 s9.length c9] rfl al_ ?_; (with_reducible refine (spec_DrawPlace.calls k _ _ s9 l0 a1 _ ?side1 ?side2 A4.out).mono ?_); (case side1 => exact kc_ HR9.out); (case side2 => exact HC9.out); rintro e wa ⟨v0, rfl, ho0, hb⟩; refine ⟨_, rfl, ?_⟩; have HO0 := q_ (Kd.R_lower ho0 (below_size (be_ HU.out))); replace HU := q_ (below_step (be_ HU.out) hb); clear hb ho0; obtain ⟨A0, c0, eo0⟩ := Kd.R_slice HO0.out; subst eo0) | ((with_reducible refine gate_callee (f := 31) rfl ?_); refine gl_ (some 16) Try.func31 #[.slice A0 l0.length c0, .int .i64 a1] rfl al_ ?_; (with_reducible refine (impl_PathOf.calls k _ _ l0 a1 l2 _ ?side1 ?side2 A5.out).mono ?_); (case side1 => exact kc_ (Kd.R_reads' HO0.out).2.2); (case side2 => exact (Kd.R_reads' HO0.out).2.1); rintro e wb ⟨v2, rfl, ho0, hb⟩; refine ⟨_, rfl, ?_⟩; replace HO0 := q_ (Kd.R_below (kr_ HO0.out) hb); have HO2 := q_ (Kd.R_lower ho0 (below_size (be_ HU.out))); replace HU := q_ (below_step (be_ HU.out) hb); clear hb ho0) | ((with_reducible refine gate_callee (f := 14) rfl ?_); refine gl_ (some 18) Try.func14 #[.slice A0 l0.length c0] rfl al_ ?_; (with_reducible refine (impl_RootOf.calls k _ _ l0 a3 _ ?side1 ?side2 A6.out).mono ?_); (case side1 => exact kc_ (Kd.R_reads' HO0.out).2.2); (case side2 => exact (Kd.R_reads' HO0.out).2.1); rintro e w ⟨rfl, hb⟩; refine ⟨_, rfl, ?_⟩; replace HO0 := q_ (Kd.R_below (kr_ HO0.out) hb); replace HO2 := q_ (Kd.R_below (kr_ HO2.out) hb); replace HU := q_ (below_step (be_ HU.out) hb); clear hb; obtain ⟨A2, c2, eo2⟩ := Kd.R_slice HO2.out; subst eo2; have HR0 := q_ (Kd.R_reads' HO0.out).2.2; have HC0 := q_ (Kd.R_reads' HO0.out).2.1; have HR2 := q_ (Kd.R_reads' HO2.out).2.2; have HC2 := q_ (Kd.R_reads' HO2.out).2.1; have HB := q_ (Below.refl w.heap.size w); clear HO0 HO2))
    replace HB := q_ (below_drew1 HB.out)
    have p384 : 0 ≤ (a1 : Int) := od_
    have q384 : a1 < (l0.length : Int) := od_
    obtain ⟨ad384, e384, hx384_0, hx384_1⟩ := at_T26 HR0.out a1 p384 q384
    have hw384_1 := hx384_1
    have hw384_0 := hx384_0
    cases e384
    replace hx384_0 := (HB.out.cell (World.block_lt_of_cell? w _ hx384_0)).trans hx384_0
    replace hx384_1 := (HB.out.cell (World.block_lt_of_cell? w _ hx384_1)).trans hx384_1
    replace p384 := eq_true p384
    replace q384 := eq_true q384
    have p386 : 0 ≤ (a1 : Int) := od_
    have q386 : a1 < (l0.length : Int) := od_
    obtain ⟨ad386, e386, hx386_0, hx386_1⟩ := at_T26 HR0.out a1 p386 q386
    have hw386_1 := hx386_1
    have hw386_0 := hx386_0
    obtain rfl : ad384 = ad386 := (by injection e386)
    replace hx386_0 := (HB.out.cell (World.block_lt_of_cell? w _ hx386_0)).trans hx386_0
    replace hx386_1 := (HB.out.cell (World.block_lt_of_cell? w _ hx386_1)).trans hx386_1
    replace p386 := eq_true p386
    replace q386 := eq_true q386
    have p400 : 0 ≤ (a1 : Int) := od_
    have q400 : a1 < (l0.length : Int) := od_
    obtain ⟨ad400, e400, hx400_0, hx400_1⟩ := at_T26 HR0.out a1 p400 q400
    have hw400_1 := hx400_1
    have hw400_0 := hx400_0
    obtain rfl : ad384 = ad400 := (by injection e400)
    replace hx400_0 := (HB.out.cell (World.block_lt_of_cell? w _ hx400_0)).trans hx400_0
    replace hx400_1 := (HB.out.cell (World.block_lt_of_cell? w _ hx400_1)).trans hx400_1
    replace p400 := eq_true p400
    replace q400 := eq_true q400
    refine start_ (n := 40) (S := fun w' => w'.cell? (ad384.add ((a1).toNat * 2)) = some (.string ((rd_T26 l0 a1).f0)) ∧ w'.cell? ⟨(ad384.add ((a1).toNat * 2)).block, (ad384.add ((a1).toNat * 2)).off + 1, none⟩ = some (.string ((rd_T26 l0 a1).f1)) ∧ w'.cell? (ad384.add ((a1).toNat * 2)) = some (.string ((rd_T26 l0 a1).f0)) ∧ w'.cell? ⟨(ad384.add ((a1).toNat * 2)).block, (ad384.add ((a1).toNat * 2)).off + 1, none⟩ = some (.string ((rd_T26 l0 a1).f1)) ∧ w'.cell? (ad384.add ((a1).toNat * 2)) = some (.string ((rd_T26 l0 a1).f0)) ∧ w'.cell? ⟨(ad384.add ((a1).toNat * 2)).block, (ad384.add ((a1).toNat * 2)).off + 1, none⟩ = some (.string ((rd_T26 l0 a1).f1))) (ds := []) (bq_ 0 40) (by kernel_rfl) rfl rfl ⟨((HB.out.cell (World.block_lt_of_cell? w _ hw384_0)).trans hw384_0), ((HB.out.cell (World.block_lt_of_cell? w _ hw384_1)).trans hw384_1), ((HB.out.cell (World.block_lt_of_cell? w _ hw386_0)).trans hw386_0), ((HB.out.cell (World.block_lt_of_cell? w _ hw386_1)).trans hw386_1), ((HB.out.cell (World.block_lt_of_cell? w _ hw400_0)).trans hw400_0), ((HB.out.cell (World.block_lt_of_cell? w _ hw400_1)).trans hw400_1)⟩ (fun hHeld => ?_); refine with_tabW laws_FnPaths.tab6 laws_FnPaths.bits6 (fun HT_ HW_ => ?_)
    generalize w.drew = w57 at HB hx384_0 hx384_1 hx386_0 hx386_1 hx400_0 hx400_1 hHeld ⊢
    refine pu_ 0 (some 19) (bq_ 1 39) HT_ ?_
    refine pu_ 1 (some 20) (bq_ 2 38) HT_ ?_
    refine pu_ 2 (some 21) (bq_ 3 37) HT_ ?_
    refine pu_ 4 (some 23) (br_ [3, 1, 1, 35]) HT_ ?_
    refine pu_ 5 (some 24) (br_ [3, 1, 2, 34]) HT_ ?_
    refine pu_ 6 (some 25) (br_ [3, 1, 3, 33]) HT_ ?_
    refine pu_ 7 (some 26) (br_ [3, 1, 4, 32]) HT_ ?_
    refine pu_ 8 (some 27) (br_ [3, 1, 5, 31]) HT_ ?_
    refine take_ (i := 3) (N := some 22) (v := ?_) (a' := ?_) (bq_ 9 31) rfl rfl (take_ofW HT_.out HW_.out (by kernel_rfl)) (fun _ _ _ h => h) (Or.inl ⟨by rfl, ?_⟩) hHeld ?_ ?_
    rotate_left
    · rintro w' ⟨s0, s1, s2, s3, s4, s5⟩
      go_simp
      with_reducible rfl
    rotate_left
    · simp only [Act.put, sa_, sz_, ss_, i64_w, i32_w]; rfl
    refine on_ 9 (some 28) (bq_ 10 30) HT_ (fun K hK => ?_)
    refine goes_ Try.func13 (by kernel_rfl) rfl #[.agg #[.string ((rd_T26 l0 a1).f0), .string ((rd_T26 l0 a1).f1)], .int .i64 a1, .int .i64 (l0.length : Int), .slice A2 l2.length c2, .string a3] (by rfl) rfl rfl al_ ?_
    with_reducible refine (impl_CheckPath.calls k ((rd_T26 l0 a1).f0) ((rd_T26 l0 a1).f1) a1 (l0.length : Int) _ _ l2 a3 true _ ?side1 ?side2 A7.out).mono ?_
    (case side1 => exact kc_ (Kd.C_below HR2.out HB.out))
    (case side2 => exact HC2.out)
    rintro e w58 ⟨rfl, hb⟩
    refine ⟨_, rfl, ?_⟩
    replace HB := q_ (below_step (be_ HB.out) hb)
    (try clear hb)
    (try clear hb2)
    (try clear hk)
    (try clear hi)
    refine hK.out _ _ ⟨((HB.out.cell (World.block_lt_of_cell? w _ hw384_0)).trans hw384_0), ((HB.out.cell (World.block_lt_of_cell? w _ hw384_1)).trans hw384_1), ((HB.out.cell (World.block_lt_of_cell? w _ hw386_0)).trans hw386_0), ((HB.out.cell (World.block_lt_of_cell? w _ hw386_1)).trans hw386_1), ((HB.out.cell (World.block_lt_of_cell? w _ hw400_0)).trans hw400_0), ((HB.out.cell (World.block_lt_of_cell? w _ hw400_1)).trans hw400_1)⟩ (fun hHeld => ?_)
    clear hK K
    refine nm_ ?_
    refine pu_ 10 (some 29) (bq_ 11 29) HT_ ?_
    refine pu_ 11 (some 30) (bq_ 12 28) HT_ ?_
    refine pu_ 12 (some 31) (bq_ 13 27) HT_ ?_
    refine pu_ 13 (some 32) (bq_ 14 26) HT_ ?_
    refine pu_ 14 (some 33) (bq_ 15 25) HT_ ?_
    refine pu_ 16 (some 35) (br_ [15, 1, 1, 23]) HT_ ?_
    refine pu_ 17 (some 36) (br_ [15, 1, 2, 22]) HT_ ?_
    refine pu_ 18 (some 37) (br_ [15, 1, 3, 21]) HT_ ?_
    refine pu_ 20 (some 39) (br_ [15, 1, 3, 1, 1, 19]) HT_ ?_
    refine pu_ 24 (some 43) (br_ [15, 1, 3, 1, 1, 3, 1, 15]) HT_ ?_
    refine take_ (i := 15) (N := some 34) (v := ?_) (a' := ?_) (br_ [19, 1, 1, 3, 1, 15]) rfl rfl (take_ofW HT_.out HW_.out (by kernel_rfl)) (fun _ _ _ h => h) (Or.inl ⟨by rfl, ?_⟩) hHeld ?_ ?_
    rotate_left
    · rintro w' ⟨s0, s1, s2, s3, s4, s5⟩
      go_simp
      with_reducible rfl
    rotate_left
    · simp only [Act.put, sa_, sz_, ss_, i64_w, i32_w]; rfl
    refine join_ (σ := Value × Value × Value) 16 (br_ [23, 1, 1, 15]) (fun s_ => [(38, s_.1), (40, s_.2.1), (41, s_.2.2)]) (fun s_ w' => (w'.cell? (ad384.add ((a1).toNat * 2)) = some (.string ((rd_T26 l0 a1).f0)) ∧ w'.cell? ⟨(ad384.add ((a1).toNat * 2)).block, (ad384.add ((a1).toNat * 2)).off + 1, none⟩ = some (.string ((rd_T26 l0 a1).f1)) ∧ w'.cell? (ad384.add ((a1).toNat * 2)) = some (.string ((rd_T26 l0 a1).f0)) ∧ w'.cell? ⟨(ad384.add ((a1).toNat * 2)).block, (ad384.add ((a1).toNat * 2)).off + 1, none⟩ = some (.string ((rd_T26 l0 a1).f1)) ∧ w'.cell? (ad384.add ((a1).toNat * 2)) = some (.string ((rd_T26 l0 a1).f0)) ∧ w'.cell? ⟨(ad384.add ((a1).toNat * 2)).block, (ad384.add ((a1).toNat * 2)).off + 1, none⟩ = some (.string ((rd_T26 l0 a1).f1))) ∧ (Kd.R Kd.string 9 w' w.heap.size (fun k_ => some k_ ≠ (s_.2.2 : Value).ownBlock) s_.2.1 y390) ∧ (Kd.R Kd.string 9 w' w.heap.size (fun k_ => some k_ ≠ (s_.2.1 : Value).ownBlock) s_.2.2 y393) ∧ (Below w.heap.size w w')) ?_ ?_
    rotate_left
    · intro hCont
      refine two_ (i := 19) (j := 22) (Ni := some 38) (Nj := some 41) (br_ [21, 3, 1, 15]) (br_ [19, 1, 1, 1, 1, 1, 1, 15]) rfl rfl rfl rfl (two_of HT_.out (by kernel_rfl)) (by decide) (by decide) (fun K hK => ?_) (fun K hK => ?_)
      · skip
        refine Kd.R_lit_step Kd.string _ 9 ?hg (N := 38) ?hd (xs := ([] : List ByteArray)) (inner := []) (ok := fun _ => True) (okp := fun _ => True) ?hr ?hp (fun _ hk => hk) trivial (Below.refl _ _) (Nat.le_refl _) (by simp) ?_; (case hd => rfl); (case hg => rfl); (case hr => first | (go_simp; done) | (go_simp; rfl)); (case hp => exact (Reps.none _ _))
        intro v388 w59 ho60 hb hg_ hnew_
        clear hg_ hnew_
        (first | rw [← Ny387.out] at ho60 | (simp only [Int.reduceToNat] at ho60; rw [← Ny387.out] at ho60))
        have HO389 := q_ (Kd.R_lower ho60 (below_size (be_ HB.out)))
        replace HB := q_ (below_step (be_ HB.out) hb)
        clear hb ho60
        refine hK.out _ _ ⟨((HB.out.cell (World.block_lt_of_cell? w _ hw384_0)).trans hw384_0), ((HB.out.cell (World.block_lt_of_cell? w _ hw384_1)).trans hw384_1), ((HB.out.cell (World.block_lt_of_cell? w _ hw386_0)).trans hw386_0), ((HB.out.cell (World.block_lt_of_cell? w _ hw386_1)).trans hw386_1), ((HB.out.cell (World.block_lt_of_cell? w _ hw400_0)).trans hw400_0), ((HB.out.cell (World.block_lt_of_cell? w _ hw400_1)).trans hw400_1)⟩ (fun hHeld => ?_)
        clear hK K
        refine nm_ ?_
        refine two_ (i := 21) (j := 22) (Ni := some 40) (Nj := some 41) (br_ [22, 2, 1, 15]) (br_ [21, 1, 1, 1, 1, 15]) rfl rfl rfl rfl (two_of HT_.out (by kernel_rfl)) (by decide) (by decide) (fun K hK => ?_) (fun K hK => ?_)
        · skip
          refine Kd.R_append_rows_step Kd.string (w0 := w) w.heap.size (by rfl) (.tmp 38) (.tmp 39) 27 9 (.string ⟨#[]⟩) 16 rfl Try.underlying27 info9 rfl (by decide) (by omega) v388 y387 l2 _ _ _ (fun _ => True) (fun _ => False) rfl rfl ?aO ?aR (fun _ _ h => h) (fun _ h => h.elim) ?aF ?aB ?aS ?aL ?_
          (case aR => exact kc_ (Kd.C_below HR2.out HB.out))
          (case aB => exact (be_ HB.out))
          (case aF => exact (fun _ _ => trivial))
          (case aO => exact (kr_ HO389.out))
          (case aS => exact (below_size (be_ HB.out)))
          (case aL => have := LMc9.out; omega)
          intro v391 w61 ho hb hg hat
          rw [← Ny390.out] at ho
          have n0_ := q_ (hb)
          have n1_ := q_ (ho)
          clear HB
          clear HO389
          have HB := n0_
          have HO392 := n1_
          clear n0_ n1_
          clear ho hb hg hat
          refine hK.out _ _ ⟨((HB.out.cell (World.block_lt_of_cell? w _ hw384_0)).trans hw384_0), ((HB.out.cell (World.block_lt_of_cell? w _ hw384_1)).trans hw384_1), ((HB.out.cell (World.block_lt_of_cell? w _ hw386_0)).trans hw386_0), ((HB.out.cell (World.block_lt_of_cell? w _ hw386_1)).trans hw386_1), ((HB.out.cell (World.block_lt_of_cell? w _ hw400_0)).trans hw400_0), ((HB.out.cell (World.block_lt_of_cell? w _ hw400_1)).trans hw400_1)⟩ (fun hHeld => ?_)
          clear hK K
          refine nm_ ?_
          refine on_ 22 (some 41) (br_ [23, 1, 1, 15]) HT_ (fun K hK => ?_)
          refine Kd.R_lit_step Kd.string _ 9 ?hg (N := 41) ?hd (xs := ([(⟨#[120]⟩ : ByteArray)] : List ByteArray)) (inner := [.string (⟨#[120]⟩ : ByteArray)]) (ok := fun _ => True) (okp := fun _ => True) ?hr ?hp (fun _ hk => hk) trivial (Below.refl _ _) (Nat.le_refl _) (by simp) ?_; (case hd => rfl); (case hg => rfl); (case hr => first | (go_simp; done) | (go_simp; rfl)); (case hp => exact (Reps.one (show Kd.M Kd.string _ _ _ (⟨#[120]⟩ : ByteArray) [.string (⟨#[120]⟩ : ByteArray)] from rfl) (Reps.none _ _)))
          intro v394 w62 ho63 hb hg_ hnew_
          clear hg_ hnew_
          (first | rw [← Ny393.out] at ho63 | (simp only [Int.reduceToNat] at ho63; rw [← Ny393.out] at ho63))
          have HO395 := q_ (Kd.R_lower (Kd.R_new' ho63 (Kd.R_lt (kr_ HO392.out))) (below_size (be_ HB.out)))
          replace HO392 := q_ (Kd.R_elder' (kr_ HO392.out) (Kd.R_base ho63) hb)
          replace HB := q_ (below_step (be_ HB.out) hb)
          clear hb ho63
          refine hK.out _ _ ⟨((HB.out.cell (World.block_lt_of_cell? w _ hw384_0)).trans hw384_0), ((HB.out.cell (World.block_lt_of_cell? w _ hw384_1)).trans hw384_1), ((HB.out.cell (World.block_lt_of_cell? w _ hw386_0)).trans hw386_0), ((HB.out.cell (World.block_lt_of_cell? w _ hw386_1)).trans hw386_1), ((HB.out.cell (World.block_lt_of_cell? w _ hw400_0)).trans hw400_0), ((HB.out.cell (World.block_lt_of_cell? w _ hw400_1)).trans hw400_1)⟩ (fun hHeld => ?_)
          clear hK K
          refine nm_ ?_
          exact norm_ (by simp only [putAll, Act.put, sa_, sz_, ss_]) (hCont (v388, v391, v394) _ ⟨hHeld, (by (with_reducible repeat (first | apply Kd.R_alloc | apply Kd.R_drewN | apply Kd.R_drew)); exact Kd.R_mono HO392.out (fun _ hk => hk.2)), (by (with_reducible repeat (first | apply Kd.R_alloc | apply Kd.R_drewN | apply Kd.R_drew)); exact Kd.R_mono HO395.out (fun _ hk => hk.2)), (be_ HB.out)⟩)
        · skip
          refine Kd.R_lit_step Kd.string _ 9 ?hg (N := 41) ?hd (xs := ([(⟨#[120]⟩ : ByteArray)] : List ByteArray)) (inner := [.string (⟨#[120]⟩ : ByteArray)]) (ok := fun _ => True) (okp := fun _ => True) ?hr ?hp (fun _ hk => hk) trivial (Below.refl _ _) (Nat.le_refl _) (by simp) ?_; (case hd => rfl); (case hg => rfl); (case hr => first | (go_simp; done) | (go_simp; rfl)); (case hp => exact (Reps.one (show Kd.M Kd.string _ _ _ (⟨#[120]⟩ : ByteArray) [.string (⟨#[120]⟩ : ByteArray)] from rfl) (Reps.none _ _)))
          intro v394 w61 ho62 hb hg_ hnew_
          clear hg_ hnew_
          (first | rw [← Ny393.out] at ho62 | (simp only [Int.reduceToNat] at ho62; rw [← Ny393.out] at ho62))
          have HO395 := q_ (Kd.R_lower (Kd.R_new' ho62 (Kd.R_lt (kr_ HO389.out))) (below_size (be_ HB.out)))
          replace HO389 := q_ (Kd.R_elder' (kr_ HO389.out) (Kd.R_base ho62) hb)
          replace HB := q_ (below_step (be_ HB.out) hb)
          clear hb ho62
          refine hK.out _ _ ⟨((HB.out.cell (World.block_lt_of_cell? w _ hw384_0)).trans hw384_0), ((HB.out.cell (World.block_lt_of_cell? w _ hw384_1)).trans hw384_1), ((HB.out.cell (World.block_lt_of_cell? w _ hw386_0)).trans hw386_0), ((HB.out.cell (World.block_lt_of_cell? w _ hw386_1)).trans hw386_1), ((HB.out.cell (World.block_lt_of_cell? w _ hw400_0)).trans hw400_0), ((HB.out.cell (World.block_lt_of_cell? w _ hw400_1)).trans hw400_1)⟩ (fun hHeld => ?_)
          clear hK K
          refine nm_ ?_
          refine on_ 21 (some 40) (br_ [23, 1, 1, 15]) HT_ (fun K hK => ?_)
          refine Kd.R_append_rows_step Kd.string (w0 := w) w.heap.size (by rfl) (.tmp 38) (.tmp 39) 27 9 (.string ⟨#[]⟩) 16 rfl Try.underlying27 info9 rfl (by decide) (by omega) v388 y387 l2 _ _ _ (fun k_ => some k_ ≠ (v394 : Value).ownBlock) (fun _ => False) rfl rfl ?aO ?aR (fun _ _ h => h) (fun _ h => h.elim) ?aF ?aB ?aS ?aL ?_
          (case aR => exact kc_ (Kd.C_below HR2.out HB.out))
          (case aB => exact (be_ HB.out))
          (case aF => exact (fun k_ hk => Kd.fresh' (Kd.R_lt (kr_ HO395.out)) k_ hk))
          (case aO => exact (by (with_reducible repeat (first | apply Kd.R_alloc | apply Kd.R_drewN | apply Kd.R_drew)); exact Kd.R_mono HO389.out (fun _ hk => hk.2)))
          (case aS => exact (below_size (be_ HB.out)))
          (case aL => have := LMc9.out; omega)
          intro v391 w63 ho hb hg hat
          rw [← Ny390.out] at ho
          have n0_ := q_ (Kd.R_after (ok := (fun _ => True)) (kr_ HO395.out) hg hat)
          have n1_ := q_ (hb)
          have n2_ := q_ (ho)
          clear HO395
          clear HB
          clear HO389
          have HO395 := n0_
          have HB := n1_
          have HO392 := n2_
          clear n0_ n1_ n2_
          clear ho hb hg hat
          refine hK.out _ _ ⟨((HB.out.cell (World.block_lt_of_cell? w _ hw384_0)).trans hw384_0), ((HB.out.cell (World.block_lt_of_cell? w _ hw384_1)).trans hw384_1), ((HB.out.cell (World.block_lt_of_cell? w _ hw386_0)).trans hw386_0), ((HB.out.cell (World.block_lt_of_cell? w _ hw386_1)).trans hw386_1), ((HB.out.cell (World.block_lt_of_cell? w _ hw400_0)).trans hw400_0), ((HB.out.cell (World.block_lt_of_cell? w _ hw400_1)).trans hw400_1)⟩ (fun hHeld => ?_)
          clear hK K
          refine nm_ ?_
          exact norm_ (by simp only [putAll, Act.put, sa_, sz_, ss_]) (hCont (v388, v391, v394) _ ⟨hHeld, (kr_ HO392.out), (by (with_reducible repeat (first | apply Kd.R_alloc | apply Kd.R_drewN | apply Kd.R_drew)); exact Kd.R_mono HO395.out (fun _ hk => hk.2)), (be_ HB.out)⟩)
      · skip
        refine Kd.R_lit_step Kd.string _ 9 ?hg (N := 41) ?hd (xs := ([(⟨#[120]⟩ : ByteArray)] : List ByteArray)) (inner := [.string (⟨#[120]⟩ : ByteArray)]) (ok := fun _ => True) (okp := fun _ => True) ?hr ?hp (fun _ hk => hk) trivial (Below.refl _ _) (Nat.le_refl _) (by simp) ?_; (case hd => rfl); (case hg => rfl); (case hr => first | (go_simp; done) | (go_simp; rfl)); (case hp => exact (Reps.one (show Kd.M Kd.string _ _ _ (⟨#[120]⟩ : ByteArray) [.string (⟨#[120]⟩ : ByteArray)] from rfl) (Reps.none _ _)))
        intro v394 w59 ho60 hb hg_ hnew_
        clear hg_ hnew_
        (first | rw [← Ny393.out] at ho60 | (simp only [Int.reduceToNat] at ho60; rw [← Ny393.out] at ho60))
        have HO395 := q_ (Kd.R_lower ho60 (below_size (be_ HB.out)))
        replace HB := q_ (below_step (be_ HB.out) hb)
        clear hb ho60
        refine hK.out _ _ ⟨((HB.out.cell (World.block_lt_of_cell? w _ hw384_0)).trans hw384_0), ((HB.out.cell (World.block_lt_of_cell? w _ hw384_1)).trans hw384_1), ((HB.out.cell (World.block_lt_of_cell? w _ hw386_0)).trans hw386_0), ((HB.out.cell (World.block_lt_of_cell? w _ hw386_1)).trans hw386_1), ((HB.out.cell (World.block_lt_of_cell? w _ hw400_0)).trans hw400_0), ((HB.out.cell (World.block_lt_of_cell? w _ hw400_1)).trans hw400_1)⟩ (fun hHeld => ?_)
        clear hK K
        refine nm_ ?_
        refine on_ 19 (some 38) (br_ [21, 1, 1, 1, 1, 15]) HT_ (fun K hK => ?_)
        refine Kd.R_lit_step Kd.string _ 9 ?hg (N := 38) ?hd (xs := ([] : List ByteArray)) (inner := []) (ok := fun _ => True) (okp := fun _ => True) ?hr ?hp (fun _ hk => hk) trivial (Below.refl _ _) (Nat.le_refl _) (by simp) ?_; (case hd => rfl); (case hg => rfl); (case hr => first | (go_simp; done) | (go_simp; rfl)); (case hp => exact (Reps.none _ _))
        intro v388 w61 ho62 hb hg_ hnew_
        clear hg_ hnew_
        (first | rw [← Ny387.out] at ho62 | (simp only [Int.reduceToNat] at ho62; rw [← Ny387.out] at ho62))
        have HO389 := q_ (Kd.R_lower (Kd.R_new' ho62 (Kd.R_lt (kr_ HO395.out))) (below_size (be_ HB.out)))
        replace HO395 := q_ (Kd.R_elder' (kr_ HO395.out) (Kd.R_base ho62) hb)
        replace HB := q_ (below_step (be_ HB.out) hb)
        clear hb ho62
        refine hK.out _ _ ⟨((HB.out.cell (World.block_lt_of_cell? w _ hw384_0)).trans hw384_0), ((HB.out.cell (World.block_lt_of_cell? w _ hw384_1)).trans hw384_1), ((HB.out.cell (World.block_lt_of_cell? w _ hw386_0)).trans hw386_0), ((HB.out.cell (World.block_lt_of_cell? w _ hw386_1)).trans hw386_1), ((HB.out.cell (World.block_lt_of_cell? w _ hw400_0)).trans hw400_0), ((HB.out.cell (World.block_lt_of_cell? w _ hw400_1)).trans hw400_1)⟩ (fun hHeld => ?_)
        clear hK K
        refine nm_ ?_
        refine on_ 21 (some 40) (br_ [23, 1, 1, 15]) HT_ (fun K hK => ?_)
        refine Kd.R_append_rows_step Kd.string (w0 := w) w.heap.size (by rfl) (.tmp 38) (.tmp 39) 27 9 (.string ⟨#[]⟩) 16 rfl Try.underlying27 info9 rfl (by decide) (by omega) v388 y387 l2 _ _ _ (fun k_ => some k_ ≠ (v394 : Value).ownBlock) (fun _ => False) rfl rfl ?aO ?aR (fun _ _ h => h) (fun _ h => h.elim) ?aF ?aB ?aS ?aL ?_
        (case aR => exact kc_ (Kd.C_below HR2.out HB.out))
        (case aB => exact (be_ HB.out))
        (case aF => exact (fun k_ hk => Kd.fresh' (Kd.R_lt (kr_ HO395.out)) k_ hk))
        (case aO => exact (by (with_reducible repeat (first | apply Kd.R_alloc | apply Kd.R_drewN | apply Kd.R_drew)); exact Kd.R_mono HO389.out (fun _ hk => hk.2)))
        (case aS => exact (below_size (be_ HB.out)))
        (case aL => have := LMc9.out; omega)
        intro v391 w63 ho hb hg hat
        rw [← Ny390.out] at ho
        have n0_ := q_ (Kd.R_after (ok := (fun _ => True)) (kr_ HO395.out) hg hat)
        have n1_ := q_ (hb)
        have n2_ := q_ (ho)
        clear HO395
        clear HB
        clear HO389
        have HO395 := n0_
        have HB := n1_
        have HO392 := n2_
        clear n0_ n1_ n2_
        clear ho hb hg hat
        refine hK.out _ _ ⟨((HB.out.cell (World.block_lt_of_cell? w _ hw384_0)).trans hw384_0), ((HB.out.cell (World.block_lt_of_cell? w _ hw384_1)).trans hw384_1), ((HB.out.cell (World.block_lt_of_cell? w _ hw386_0)).trans hw386_0), ((HB.out.cell (World.block_lt_of_cell? w _ hw386_1)).trans hw386_1), ((HB.out.cell (World.block_lt_of_cell? w _ hw400_0)).trans hw400_0), ((HB.out.cell (World.block_lt_of_cell? w _ hw400_1)).trans hw400_1)⟩ (fun hHeld => ?_)
        clear hK K
        refine nm_ ?_
        exact norm_ (by simp only [putAll, Act.put, sa_, sz_, ss_]) (hCont (v388, v391, v394) _ ⟨hHeld, (kr_ HO392.out), (by (with_reducible repeat (first | apply Kd.R_alloc | apply Kd.R_drewN | apply Kd.R_drew)); exact Kd.R_mono HO395.out (fun _ hk => hk.2)), (be_ HB.out)⟩)
    rintro ⟨v388, v391, v394⟩ w64 ⟨hS_, h0_, h1_, h2_⟩
    have n0_ : Aside0 (Kd.R Kd.string 9 w64 w.heap.size (fun k_ => some k_ ≠ (v394 : Value).ownBlock) v391 y390) := ⟨h0_⟩
    have n1_ : Aside0 (Kd.R Kd.string 9 w64 w.heap.size (fun k_ => some k_ ≠ (v391 : Value).ownBlock) v394 y393) := ⟨h1_⟩
    have n2_ : Aside0 (Below w.heap.size w w64) := ⟨h2_⟩
    clear HB
    clear h0_ h1_ h2_
    have HO392 := n0_
    have HO395 := n1_
    have HB := n2_
    clear n0_ n1_ n2_
    have hHeld : w64.cell? (ad384.add ((a1).toNat * 2)) = some (.string ((rd_T26 l0 a1).f0)) ∧ w64.cell? ⟨(ad384.add ((a1).toNat * 2)).block, (ad384.add ((a1).toNat * 2)).off + 1, none⟩ = some (.string ((rd_T26 l0 a1).f1)) ∧ w64.cell? (ad384.add ((a1).toNat * 2)) = some (.string ((rd_T26 l0 a1).f0)) ∧ w64.cell? ⟨(ad384.add ((a1).toNat * 2)).block, (ad384.add ((a1).toNat * 2)).off + 1, none⟩ = some (.string ((rd_T26 l0 a1).f1)) ∧ w64.cell? (ad384.add ((a1).toNat * 2)) = some (.string ((rd_T26 l0 a1).f0)) ∧ w64.cell? ⟨(ad384.add ((a1).toNat * 2)).block, (ad384.add ((a1).toNat * 2)).off + 1, none⟩ = some (.string ((rd_T26 l0 a1).f1)) := hS_
    obtain ⟨Ao66, co66, eo66⟩ := Kd.R_slice HO395.out
    (first | subst eo66 | (injection eo66 with f1_ f2_ f3_; have f4_ := f1_.symm; have f5_ := f3_.symm; clear f1_ f2_ f3_; subst f4_; subst f5_))
    refine norm_ (a' := ?_) ?_ ?_
    rotate_left
    · simp only [putAll, Act.put, sa_, sz_, ss_]
      rfl
    refine on_ 23 (some 42) (bq_ 25 15) HT_ (fun K hK => ?_)
    refine Kd.R_append_rows_step Kd.string (w0 := w) w.heap.size (by rfl) (.tmp 40) (.tmp 41) 27 9 (.string ⟨#[]⟩) 16 rfl Try.underlying27 info9 rfl (by decide) (by omega) v391 y390 y393 _ _ _ (fun k_ => some k_ ≠ (.slice Ao66 y393.length co66 : Value).ownBlock) (fun _ => False) rfl rfl ?aO ?aR (fun _ _ h => h) (fun _ h => h.elim) ?aF ?aB ?aS ?aL ?_
    (case aR => exact kc_ (Kd.R_reads' HO395.out).2.2)
    (case aB => exact (be_ HB.out))
    (case aF => exact (fun k_ hk => Kd.fresh' (Kd.R_lt (kr_ HO395.out)) k_ hk))
    (case aO => exact (kr_ HO392.out))
    (case aS => exact (below_size (be_ HB.out)))
    (case aL => have := LMc10.out; omega)
    intro v397 w65 ho hb hg hat
    rw [← Ny396.out] at ho
    have n0_ := q_ (Kd.R_after (ok := (fun _ => True)) (by (with_reducible repeat (first | apply Kd.R_alloc | apply Kd.R_drewN | apply Kd.R_drew)); exact Kd.R_mono HO395.out (fun _ hk => ⟨trivial, hk⟩)) hg hat)
    have n1_ := q_ (hb)
    have n2_ := q_ (ho)
    clear HO395
    clear HB
    clear HO392
    have HO395 := n0_
    have HB := n1_
    have HO398 := n2_
    clear n0_ n1_ n2_
    clear ho hb hg hat
    obtain ⟨Ao67, co67, eo67⟩ := Kd.R_slice HO398.out
    (first | subst eo67 | (injection eo67 with f1_ f2_ f3_; have f4_ := f1_.symm; have f5_ := f3_.symm; clear f1_ f2_ f3_; subst f4_; subst f5_))
    refine hK.out _ _ ⟨((HB.out.cell (World.block_lt_of_cell? w _ hw384_0)).trans hw384_0), ((HB.out.cell (World.block_lt_of_cell? w _ hw384_1)).trans hw384_1), ((HB.out.cell (World.block_lt_of_cell? w _ hw386_0)).trans hw386_0), ((HB.out.cell (World.block_lt_of_cell? w _ hw386_1)).trans hw386_1), ((HB.out.cell (World.block_lt_of_cell? w _ hw400_0)).trans hw400_0), ((HB.out.cell (World.block_lt_of_cell? w _ hw400_1)).trans hw400_1)⟩ (fun hHeld => ?_)
    clear hK K
    refine nm_ ?_
    refine on_ 25 (some 44) (bq_ 26 14) HT_ (fun K hK => ?_)
    refine goes_ Try.func13 (by kernel_rfl) rfl #[.agg #[.string ((rd_T26 l0 a1).f0), .string ((rd_T26 l0 a1).f1)], .int .i64 a1, .int .i64 (l0.length : Int), .slice Ao67 y396.length co67, .string a3] (by rfl) rfl rfl al_ ?_
    with_reducible refine (impl_CheckPath.calls k ((rd_T26 l0 a1).f0) ((rd_T26 l0 a1).f1) a1 (l0.length : Int) _ _ y396 a3 false _ ?side1 ?side2 A11.out).mono ?_
    (case side1 => exact kc_ (Kd.R_reads' HO398.out).2.2)
    (case side2 => exact (Kd.R_reads' HO398.out).2.1)
    rintro e w68 ⟨rfl, hb⟩
    refine ⟨_, rfl, ?_⟩
    replace HO395 := q_ (Kd.R_below (kr_ HO395.out) hb)
    replace HO398 := q_ (Kd.R_below (kr_ HO398.out) hb)
    replace HB := q_ (below_step (be_ HB.out) hb)
    (try clear hb)
    (try clear hb2)
    (try clear hk)
    (try clear hi)
    refine hK.out _ _ ⟨((HB.out.cell (World.block_lt_of_cell? w _ hw384_0)).trans hw384_0), ((HB.out.cell (World.block_lt_of_cell? w _ hw384_1)).trans hw384_1), ((HB.out.cell (World.block_lt_of_cell? w _ hw386_0)).trans hw386_0), ((HB.out.cell (World.block_lt_of_cell? w _ hw386_1)).trans hw386_1), ((HB.out.cell (World.block_lt_of_cell? w _ hw400_0)).trans hw400_0), ((HB.out.cell (World.block_lt_of_cell? w _ hw400_1)).trans hw400_1)⟩ (fun hHeld => ?_)
    clear hK K
    refine nm_ ?_
    refine pu_ 26 (some 45) (bq_ 27 13) HT_ ?_
    refine pu_ 27 (some 46) (bq_ 28 12) HT_ ?_
    refine pu_ 28 (some 47) (bq_ 29 11) HT_ ?_
    refine pu_ 29 (some 48) (bq_ 30 10) HT_ ?_
    refine pu_ 30 (some 49) (bq_ 31 9) HT_ ?_
    refine pu_ 32 (some 51) (br_ [31, 1, 1, 7]) HT_ ?_
    refine pu_ 33 (some 52) (br_ [31, 1, 2, 6]) HT_ ?_
    refine pu_ 34 (some 53) (br_ [31, 1, 3, 5]) HT_ ?_
    refine pu_ 35 (some 54) (br_ [31, 1, 4, 4]) HT_ ?_
    refine pu_ 36 (some 55) (br_ [31, 1, 5, 3]) HT_ ?_
    refine pu_ 37 (some 56) (br_ [31, 1, 6, 2]) HT_ ?_
    refine take_ (i := 31) (N := some 50) (v := ?_) (a' := ?_) (bq_ 38 2) rfl rfl (take_ofW HT_.out HW_.out (by kernel_rfl)) (fun _ _ _ h => h) (Or.inl ⟨by rfl, ?_⟩) hHeld ?_ ?_
    rotate_left
    · rintro w' ⟨s0, s1, s2, s3, s4, s5⟩
      go_simp
      with_reducible rfl
    rotate_left
    · simp only [Act.put, sa_, sz_, ss_, i64_w, i32_w]; rfl
    refine on_ 38 (some 57) (bq_ 39 1) HT_ (fun K hK => ?_)
    refine goes_ Try.func13 (by kernel_rfl) rfl #[.agg #[.string ((rd_T26 l0 a1).f0), .string ((rd_T26 l0 a1).f1)], .int .i64 (l0.length : Int), .int .i64 (l0.length : Int), .slice A2 l2.length c2, .string a3] (by rfl) rfl rfl al_ ?_
    with_reducible refine (impl_CheckPath.calls k ((rd_T26 l0 a1).f0) ((rd_T26 l0 a1).f1) (l0.length : Int) (l0.length : Int) _ _ l2 a3 false _ ?side1 ?side2 A25.out).mono ?_
    (case side1 => exact kc_ (Kd.C_below HR2.out HB.out))
    (case side2 => exact HC2.out)
    rintro e w69 ⟨rfl, hb⟩
    refine ⟨_, rfl, ?_⟩
    replace HO395 := q_ (Kd.R_below (kr_ HO395.out) hb)
    replace HO398 := q_ (Kd.R_below (kr_ HO398.out) hb)
    replace HB := q_ (below_step (be_ HB.out) hb)
    (try clear hb)
    (try clear hb2)
    (try clear hk)
    (try clear hi)
    refine hK.out _ _ ⟨((HB.out.cell (World.block_lt_of_cell? w _ hw384_0)).trans hw384_0), ((HB.out.cell (World.block_lt_of_cell? w _ hw384_1)).trans hw384_1), ((HB.out.cell (World.block_lt_of_cell? w _ hw386_0)).trans hw386_0), ((HB.out.cell (World.block_lt_of_cell? w _ hw386_1)).trans hw386_1), ((HB.out.cell (World.block_lt_of_cell? w _ hw400_0)).trans hw400_0), ((HB.out.cell (World.block_lt_of_cell? w _ hw400_1)).trans hw400_1)⟩ (fun hHeld => ?_)
    clear hK K
    refine nm_ ?_
    refine pu_ 39 (some 58) (bq_ 40 0) HT_ ?_
    refine done_ (done_of HT_.out (by kernel_rfl)) ?_
    try go_wp2
    replace HO395 := q_ (Kd.R_drew HO395.out)
    replace HO398 := q_ (Kd.R_drew HO398.out)
    replace HB := q_ (below_drew1 HB.out)
    have p402 : 0 ≤ (a1 : Int) := od_
    have q402 : a1 < (l0.length : Int) := od_
    obtain ⟨ad402, e402, hx402_0, hx402_1⟩ := at_T26 HR0.out a1 p402 q402
    have hw402_1 := hx402_1
    have hw402_0 := hx402_0
    obtain rfl : ad384 = ad402 := (by injection e402)
    replace hx402_0 := (HB.out.cell (World.block_lt_of_cell? w _ hx402_0)).trans hx402_0
    replace hx402_1 := (HB.out.cell (World.block_lt_of_cell? w _ hx402_1)).trans hx402_1
    replace p402 := eq_true p402
    replace q402 := eq_true q402
    obtain ⟨i071, hi071, _, hsz71, _⟩ := info_parts info9
    obtain ⟨A71, hcut71, hA71, hC71⟩ := print_drop_of (P := Try.prog) Value.string (⟨#[]⟩ : ByteArray) 27 9 .i64 Try.underlying27 hi071 hsz71 A2 c2 l2 1 (by omega) od_ HC2.out
    have HR403 := q_ (Kd.C_of_reads (h1 := fun _ => rfl) (hA71 _ (Kd.reads_of_C HR2.out)))
    have HC403 := Aside0.mk hC71
    clear hA71 hC71 hi071 hsz71
    refine start_ (n := 18) (S := fun w' => w'.cell? (ad384.add ((a1).toNat * 2)) = some (.string ((rd_T26 l0 a1).f0)) ∧ w'.cell? ⟨(ad384.add ((a1).toNat * 2)).block, (ad384.add ((a1).toNat * 2)).off + 1, none⟩ = some (.string ((rd_T26 l0 a1).f1))) (ds := []) (bq_ 0 18) (by kernel_rfl) rfl rfl ⟨((HB.out.cell (World.block_lt_of_cell? w _ hw402_0)).trans hw402_0), ((HB.out.cell (World.block_lt_of_cell? w _ hw402_1)).trans hw402_1)⟩ (fun hHeld => ?_); refine with_tabW laws_FnPaths.tab8 laws_FnPaths.bits8 (fun HT_ HW_ => ?_)
    generalize w69.drew = w70 at HO395 HO398 HB HR403 hx402_0 hx402_1 hHeld ⊢
    refine pu_ 0 (some 59) (bq_ 1 17) HT_ ?_
    refine pu_ 1 (some 60) (bq_ 2 16) HT_ ?_
    refine pu_ 2 (some 61) (bq_ 3 15) HT_ ?_
    refine pu_ 3 (some 62) (bq_ 4 14) HT_ ?_
    refine pu_ 4 (some 63) (bq_ 5 13) HT_ ?_
    refine pu_ 5 (some 64) (bq_ 6 12) HT_ ?_
    refine pu_ 6 (some 65) (bq_ 7 11) HT_ ?_
    refine pu_ 8 (some 67) (br_ [7, 1, 1, 9]) HT_ ?_
    refine pu_ 9 (some 68) (br_ [7, 1, 2, 8]) HT_ ?_
    refine pu_ 10 (some 69) (br_ [7, 1, 3, 7]) HT_ ?_
    refine pu_ 11 (some 70) (br_ [7, 1, 4, 6]) HT_ ?_
    refine pu_ 12 (some 71) (br_ [7, 1, 5, 5]) HT_ ?_
    refine pu_ 13 (some 72) (br_ [7, 1, 6, 4]) HT_ ?_
    refine take_ (i := 7) (N := some 66) (v := ?_) (a' := ?_) (bq_ 14 4) rfl rfl (take_ofW HT_.out HW_.out (by kernel_rfl)) (fun _ _ _ h => h) (Or.inl ⟨by rfl, ?_⟩) hHeld ?_ ?_
    rotate_left
    · rintro w' ⟨s0, s1⟩
      go_simp
      with_reducible rfl
    rotate_left
    · simp only [Act.put, sa_, sz_, ss_, i64_w, i32_w]; rfl
    refine on_ 14 (some 73) (bq_ 15 3) HT_ (fun K hK => ?_)
    refine goes_ Try.func13 (by kernel_rfl) rfl #[.agg #[.string ((rd_T26 l0 a1).f0), .string ((rd_T26 l0 a1).f1)], .int .i64 a1, .int .i64 (l0.length : Int), .slice A71 (l2.drop 1).length (c2 - 1), .string a3] (by rfl) rfl rfl (by (try simp only [List.map_toArray, List.map_cons, List.map_nil]); first | done | (rw [show (l2.drop 1).length = (l2.length - 1) from List.length_drop] <;> rfl) | rfl | (simp only [List.length_drop, List.length_take]; rfl)) ?_
    with_reducible refine (impl_CheckPath.calls k ((rd_T26 l0 a1).f0) ((rd_T26 l0 a1).f1) a1 (l0.length : Int) _ _ (l2.drop 1) a3 false _ ?side1 ?side2 A56.out).mono ?_
    (case side1 => exact kc_ (Kd.C_below HR403.out HB.out))
    (case side2 => exact HC403.out)
    rintro e w72 ⟨rfl, hb⟩
    refine ⟨_, rfl, ?_⟩
    replace HO395 := q_ (Kd.R_below (kr_ HO395.out) hb)
    replace HO398 := q_ (Kd.R_below (kr_ HO398.out) hb)
    replace HB := q_ (below_step (be_ HB.out) hb)
    (try clear hb)
    (try clear hb2)
    (try clear hk)
    (try clear hi)
    refine hK.out _ _ ⟨((HB.out.cell (World.block_lt_of_cell? w _ hw402_0)).trans hw402_0), ((HB.out.cell (World.block_lt_of_cell? w _ hw402_1)).trans hw402_1)⟩ (fun hHeld => ?_)
    clear hK K
    refine nm_ ?_
    refine pu_ 15 (some 74) (bq_ 16 2) HT_ ?_
    refine pu_ 16 (some 75) (bq_ 17 1) HT_ ?_
    refine pu_ 17 (some 2) (bq_ 18 0) HT_ ?_
    refine done_ (done_of HT_.out (by kernel_rfl)) ?_
    try go_wp2
    go_ret
    exact ⟨rf_, below_step HU.out (be_ HB.out)⟩


end Go.Proofs.Ythkaifddpjjmaaa.P
