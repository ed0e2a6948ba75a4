-- Written by wip/xp/xp.py over the kit's print; Lean checks it.
import Derived.Test.YtgaalomhipfgjaaPx0
import Derived.Test.YtgaalomhipfgjaaPx2
import Derived.Test.YtgaalomhipfgjaaPx4
import Derived.Test.YtgaalomhipfgjaaPx8
import Derived.Test.YtgaalomhipfgjaaPx10
import Derived.Test.YtgaalomhipfgjaaPx11
import Derived.Test.YtgaalomhipfgjaaPx12
namespace Go.Proofs.Ytgaalomhipfgjaa.P
open Go.RowKit Go.Proofs.YtgaalomhipfgjaaW.PrintWords Go.Proofs.YtgaalomhipfgjaaW.PrintLast Go.Proofs.YtgaalomhipfgjaaW.PrintMore
attribute [local go_sem] max2_int min2_int max_two min_two max_three min_three max_four min_four   -- for this text's walks alone
set_option linter.unusedVariables false
set_option linter.unusedSimpArgs false

/-! ###  laws_FnRoots: function 6 -/
def laws_FnRoots.j0 : Nat → List (S26) → Int → List (S26) → ByteArray → ByteArray → Bool → Option (Bool)
  | 0, _, _, _, _, _, _ => none
  | k + 1, x3, x4, x5, x6, x7, x48 => if x48 = true then (some false) else (if 0 ≤ x4 then (if x4 < (x5.length : Int) then ((impl_PathOf.f k x5 x4).bind fun t618 => ((impl_PartAt.f k x3 ((rd_T26 x5 x4).f0) ((rd_T26 x5 x4).f1) x4 (x5.length : Int) t618).bind fun bt621 => (if bt621.2.2 = true then ((impl_IsClash.f k bt621.1 bt621.2.1 32).bind fun t624 => (if ((x6.toList == x7.toList) == t624) = true then (if 1 ≤ (x3.length : Int) then ((impl_InnerOf.f k (x3.take 1)).bind fun t629 => (if 0 < (x3.length : Int) then ((impl_LeafOf.f k ((rd_T26 x3 0).f0) ((rd_T26 x3 0).f1)).bind fun t631 => (some (t629.toList == t631.toList))) else (none))) else (none)) else (some false))) else (if ((x6.toList == x7.toList) == false) = true then (if 1 ≤ (x3.length : Int) then ((impl_InnerOf.f k (x3.take 1)).bind fun t636 => (if 0 < (x3.length : Int) then ((impl_LeafOf.f k ((rd_T26 x3 0).f0) ((rd_T26 x3 0).f1)).bind fun t638 => (some (t636.toList == t638.toList))) else (none))) else (none)) else (some false))))) else (none)) else (none))
def laws_FnRoots.f (k : Nat) (l0 : List Int) : Option (Bool) := (laws_big.f l0).bind fun t601 => (if t601 = true then (some true) else ((spec_DrawPlace.f k l0).bind fun bt602 => ((some (([] : List (S26)) : List (S26))).bind fun y606 => (if y606.length + bt602.1.length < 4398046511104 then ((some (y606 ++ bt602.1 : List (S26))).bind fun y609 => (if 0 ≤ bt602.2 then (if bt602.2 < (y609.length : Int) then (if ((rd_T26 y609 bt602.2).f1).size + 1 ≤ 9223372036854775807 then ((some (y609.set (bt602.2 : Int).toNat (⟨(rd_T26 y609 bt602.2).f0, ((rd_T26 y609 bt602.2).f1) ++ (⟨#[33]⟩ : ByteArray)⟩ : S26) : List (S26))).bind fun y613 => ((impl_RootOf.f k bt602.1).bind fun t614 => ((impl_RootOf.f k y613).bind fun t615 => ((spec_RootOf.f k bt602.1).bind fun t616 => (if t614.toList = t616.toList then (if (t614.size : Int) = 32 then (laws_FnRoots.j0 k bt602.1 bt602.2 y613 t614 t615 ((t615.size : Int) != 32)) else (laws_FnRoots.j0 k bt602.1 bt602.2 y613 t614 t615 true)) else (laws_FnRoots.j0 k bt602.1 bt602.2 y613 t614 t615 true)))))) else (none)) else (none)) else (none))) else (none)))))
def laws_FnRoots.T10 : Bool × List (List Nat × List Nat) := (true, [([], []), ([], []), ([], []), ([1, 2], [1, 2]), ([3], [3]), ([], []), ([], []), ([6], [6]), ([], []), ([], []), ([8, 9], [8, 9]), ([0, 4, 5, 7, 10, 10], [0, 4, 5, 7, 10]), ([11], [11]), ([12], [12]), ([12], [12]), ([12], [12]), ([13, 11, 0, 1, 2, 3, 4, 5, 6, 7, 8, 9, 10, 11, 12, 13], [13]), ([14, 16, 0, 1, 2, 3, 4, 5, 6, 7, 8, 9, 10, 11, 12, 13, 14, 16], [14]), ([15, 17, 0, 1, 2, 3, 4, 5, 6, 7, 8, 9, 10, 11, 12, 13, 14, 15, 16, 17], [15])])
def laws_FnRoots.B10 : List Nat := [0, 0, 0, 6, 14, 0, 0, 64, 0, 0, 768, 2047, 4095, 8191, 8191, 8191, 16383, 98303, 262143]
theorem laws_FnRoots.tab10 : rtab .any (opsOf Try.f6 10) = laws_FnRoots.T10 := by kernel_rfl
theorem laws_FnRoots.bits10 : waitsOk laws_FnRoots.T10.2 laws_FnRoots.B10 = true := by kernel_rfl
def laws_FnRoots.T11 : Bool × List (List Nat × List Nat) := (true, [([], []), ([], []), ([0, 1], [0, 1]), ([], []), ([3], [3]), ([4], [4]), ([4], [4]), ([5, 6, 4, 4], [4, 5, 6]), ([4, 7], [4, 7]), ([2, 8], [2, 8]), ([9, 7], [9]), ([10], [10]), ([11, 10], [10, 11]), ([12, 10, 10], [10, 12]), ([10], [10]), ([14, 10], [10, 14]), ([15, 10], [10, 15]), ([16, 13, 10], [10, 16]), ([13, 17, 10], [10, 13, 17]), ([10, 18], [10, 18]), ([19, 17, 0, 1, 2, 3, 4, 5, 6, 7, 8, 9, 10, 11, 12, 13, 14, 15, 16, 17, 18, 19], [19])])
def laws_FnRoots.B11 : List Nat := [0, 0, 3, 0, 8, 24, 24, 120, 248, 511, 1023, 2047, 4095, 8191, 2047, 18431, 51199, 131071, 262143, 524287, 1048575]
theorem laws_FnRoots.tab11 : rtab .any (opsOf Try.f6 11) = laws_FnRoots.T11 := by kernel_rfl
theorem laws_FnRoots.bits11 : waitsOk laws_FnRoots.T11.2 laws_FnRoots.B11 = true := by kernel_rfl
set_option maxHeartbeats 8000000 in
set_option maxRecDepth 100000 in
theorem laws_FnRoots.calls (k : Nat) (A0 : Option Addr) (c0 : Nat) (l0 : List Int) (r : Bool) (w : World) (hr0 : Kd.C (Kd.int .u8) w A0 l0.length l0) (hc0 : l0.length ≤ c0) (h : laws_FnRoots.f k l0 = some r) :
  Calls Try.prog 6 #[.slice A0 l0.length c0] w fun e w' => e = .returned (.bool r) ∧ Below w.heap.size w w' := by
  have hu26 := Try.underlying26
  have HR0 := Aside0.mk hr0
  have HC0 := Aside0.mk hc0
  clear hr0 hc0
  have HB := Aside0.mk (Below.refl w.heap.size w)
  have H : ((laws_big.f l0).bind fun t601 => (if t601 = true then (some true) else ((spec_DrawPlace.f k l0).bind fun bt602 => ((some (([] : List (S26)) : List (S26))).bind fun y606 => (if y606.length + bt602.1.length < 4398046511104 then ((some (y606 ++ bt602.1 : List (S26))).bind fun y609 => (if 0 ≤ bt602.2 then (if bt602.2 < (y609.length : Int) then (if ((rd_T26 y609 bt602.2).f1).size + 1 ≤ 9223372036854775807 then ((some (y609.set (bt602.2 : Int).toNat (⟨(rd_T26 y609 bt602.2).f0, ((rd_T26 y609 bt602.2).f1) ++ (⟨#[33]⟩ : ByteArray)⟩ : S26) : List (S26))).bind fun y613 => ((impl_RootOf.f k bt602.1).bind fun t614 => ((impl_RootOf.f k y613).bind fun t615 => ((spec_RootOf.f k bt602.1).bind fun t616 => (if t614.toList = t616.toList then (if (t614.size : Int) = 32 then (laws_FnRoots.j0 k bt602.1 bt602.2 y613 t614 t615 ((t615.size : Int) != 32)) else (laws_FnRoots.j0 k bt602.1 bt602.2 y613 t614 t615 true)) else (laws_FnRoots.j0 k bt602.1 bt602.2 y613 t614 t615 true)))))) else (none)) else (none)) else (none))) else (none)))))) = some r := h
  clear h
  replace H := Option.bind_eq_some_iff.mp H
  obtain ⟨t601, A20, H⟩ := H
  have A2 := Aside0.mk A20
  clear A20
  by_cases c3 : t601 = true
  · subst c3
    have H1 : (some true) = some r := by rw [if_pos rfl] at H; exact H
    clear H
    have H := H1
    clear H1
    obtain rfl := Option.some.inj H
    go_enter Try.func6, Try.ntmps6
    go_wp2_with (first | ((with_reducible refine gate_callee (f := 9) rfl ?_); refine goesL_ (some 12) rfl rfl Try.func9 (by kernel_rfl) rfl #[.slice A0 l0.length c0] rfl al_ ?_; (with_reducible refine (laws_big.calls _ _ l0 true _ ?side1 ?side2 A2.out).mono ?_); (case side1 => exact kc_ HR0.out); (case side2 => exact HC0.out); rintro e w' ⟨rfl, ⟨nd, rfl⟩⟩; refine ⟨_, rfl, ?_⟩))
    go_ret
    exact ⟨by first | rfl | (simp [errW_none, errW_some] <;> rfl) | (simp [*, errW_none, errW_some] <;> rfl), be_ HB.out⟩
  · replace c3 := Bool.eq_false_iff.mpr c3
    subst c3
    have H1 : ((spec_DrawPlace.f k l0).bind fun bt602 => ((some (([] : List (S26)) : List (S26))).bind fun y606 => (if y606.length + bt602.1.length < 4398046511104 then ((some (y606 ++ bt602.1 : List (S26))).bind fun y609 => (if 0 ≤ bt602.2 then (if bt602.2 < (y609.length : Int) then (if ((rd_T26 y609 bt602.2).f1).size + 1 ≤ 9223372036854775807 then ((some (y609.set (bt602.2 : Int).toNat (⟨(rd_T26 y609 bt602.2).f0, ((rd_T26 y609 bt602.2).f1) ++ (⟨#[33]⟩ : ByteArray)⟩ : S26) : List (S26))).bind fun y613 => ((impl_RootOf.f k bt602.1).bind fun t614 => ((impl_RootOf.f k y613).bind fun t615 => ((spec_RootOf.f k bt602.1).bind fun t616 => (if t614.toList = t616.toList then (if (t614.size : Int) = 32 then (laws_FnRoots.j0 k bt602.1 bt602.2 y613 t614 t615 ((t615.size : Int) != 32)) else (laws_FnRoots.j0 k bt602.1 bt602.2 y613 t614 t615 true)) else (laws_FnRoots.j0 k bt602.1 bt602.2 y613 t614 t615 true)))))) else (none)) else (none)) else (none))) else (none)))) = some r := by rw [if_neg (show ¬ (false = true) by decide)] at H; exact H
    clear H
    have H := H1
    clear H1
    replace H := Option.bind_eq_some_iff.mp H
    obtain ⟨⟨t602, t603⟩, A40, H⟩ := H; try dsimp only at H
    have A4 := Aside0.mk A40
    clear A40
    obtain ⟨y606, hy606⟩ : ∃ y_ : List (S26), y_ = (([] : List (S26))) := ⟨_, rfl⟩
    replace H : (if y606.length + t602.length < 4398046511104 then ((some (y606 ++ t602 : List (S26))).bind fun y609 => (if 0 ≤ t603 then (if t603 < (y609.length : Int) then (if ((rd_T26 y609 t603).f1).size + 1 ≤ 9223372036854775807 then ((some (y609.set (t603 : Int).toNat (⟨(rd_T26 y609 t603).f0, ((rd_T26 y609 t603).f1) ++ (⟨#[33]⟩ : ByteArray)⟩ : S26) : List (S26))).bind fun y613 => ((impl_RootOf.f k t602).bind fun t614 => ((impl_RootOf.f k y613).bind fun t615 => ((spec_RootOf.f k t602).bind fun t616 => (if t614.toList = t616.toList then (if (t614.size : Int) = 32 then (laws_FnRoots.j0 k t602 t603 y613 t614 t615 ((t615.size : Int) != 32)) else (laws_FnRoots.j0 k t602 t603 y613 t614 t615 true)) else (laws_FnRoots.j0 k t602 t603 y613 t614 t615 true)))))) else (none)) else (none)) else (none))) else (none)) = some r := by first | (rw [hy606]; with_reducible exact H) | (have H2_ := (Option.bind_some _ _).symm.trans H; rw [hy606]; with_reducible exact H2_) | (have H2_ := (Option.bind_some _ _).symm.trans H; with_reducible exact H2_) | with_reducible exact H | (rw [hy606]; exact H) | exact H
    have Ny606 := Aside0.mk hy606
    clear hy606
    by_cases c5 : y606.length + t602.length < 4398046511104
    rotate_left
    · rw [if_neg c5] at H; exact absurd H (by simp)
    rw [if_pos c5] at H
    have LMc5 := Aside0.mk c5
    clear c5
    obtain ⟨y609, hy609⟩ : ∃ y_ : List (S26), y_ = (y606 ++ t602) := ⟨_, rfl⟩
    replace H : (if 0 ≤ t603 then (if t603 < (y609.length : Int) then (if ((rd_T26 y609 t603).f1).size + 1 ≤ 9223372036854775807 then ((some (y609.set (t603 : Int).toNat (⟨(rd_T26 y609 t603).f0, ((rd_T26 y609 t603).f1) ++ (⟨#[33]⟩ : ByteArray)⟩ : S26) : List (S26))).bind fun y613 => ((impl_RootOf.f k t602).bind fun t614 => ((impl_RootOf.f k y613).bind fun t615 => ((spec_RootOf.f k t602).bind fun t616 => (if t614.toList = t616.toList then (if (t614.size : Int) = 32 then (laws_FnRoots.j0 k t602 t603 y613 t614 t615 ((t615.size : Int) != 32)) else (laws_FnRoots.j0 k t602 t603 y613 t614 t615 true)) else (laws_FnRoots.j0 k t602 t603 y613 t614 t615 true)))))) else (none)) else (none)) else (none)) = some r := by first | (rw [hy609]; with_reducible exact H) | (have H2_ := (Option.bind_some _ _).symm.trans H; rw [hy609]; with_reducible exact H2_) | (have H2_ := (Option.bind_some _ _).symm.trans H; with_reducible exact H2_) | with_reducible exact H | (rw [hy609]; exact H) | exact H
    have Ny609 := Aside0.mk hy609
    clear hy609
    by_cases c6 : 0 ≤ t603
    rotate_left
    · rw [if_neg c6] at H; exact absurd H (by simp)
    rw [if_pos c6] at H
    have c6b0 : decide (0 ≤ t603) = true := decide_eq_true c6
    clear c6
    by_cases c7 : t603 < (y609.length : Int)
    rotate_left
    · rw [if_neg c7] at H; exact absurd H (by simp)
    rw [if_pos c7] at H
    have c7b0 : decide (t603 < (y609.length : Int)) = true := decide_eq_true c7
    clear c7
    by_cases c8 : ((rd_T26 y609 t603).f1).size + 1 ≤ 9223372036854775807
    rotate_left
    · rw [if_neg c8] at H; exact absurd H (by simp)
    rw [if_pos c8] at H
    have c8b0 := eq_true c8
    have c8b1 : decide (((rd_T26 y609 t603).f1).size + 1 ≤ 9223372036854775807) = true := decide_eq_true c8
    try have c8b2 : (9223372036854775807 < ((rd_T26 y609 t603).f1).size + 1) = False := eq_false (Nat.not_lt.2 c8)
    obtain ⟨y613, hy613⟩ : ∃ y_ : List (S26), y_ = (y609.set (t603 : Int).toNat (⟨(rd_T26 y609 t603).f0, ((rd_T26 y609 t603).f1) ++ (⟨#[33]⟩ : ByteArray)⟩ : S26)) := ⟨_, rfl⟩
    replace H : ((impl_RootOf.f k t602).bind fun t614 => ((impl_RootOf.f k y613).bind fun t615 => ((spec_RootOf.f k t602).bind fun t616 => (if t614.toList = t616.toList then (if (t614.size : Int) = 32 then (laws_FnRoots.j0 k t602 t603 y613 t614 t615 ((t615.size : Int) != 32)) else (laws_FnRoots.j0 k t602 t603 y613 t614 t615 true)) else (laws_FnRoots.j0 k t602 t603 y613 t614 t615 true))))) = some r := by first | (rw [hy613]; with_reducible exact H) | (have H2_ := (Option.bind_some _ _).symm.trans H; rw [hy613]; with_reducible exact H2_) | (have H2_ := (Option.bind_some _ _).symm.trans H; with_reducible exact H2_) | with_reducible exact H | (rw [hy613]; exact H) | exact H
    have Ny613 := Aside0.mk hy613
    clear hy613
    replace H := Option.bind_eq_some_iff.mp H
    obtain ⟨t614, A100, H⟩ := H
    have A10 := Aside0.mk A100
    clear A100
    replace H := Option.bind_eq_some_iff.mp H
    obtain ⟨t615, A110, H⟩ := H
    have A11 := Aside0.mk A110
    clear A110
    have HC12 := Aside0.mk H
    clear H
    go_enter Try.func6, Try.ntmps6
    go_upto_region 8 with (first | ((with_reducible refine gate_callee (f := 9) rfl ?_); refine goesL_ (some 12) rfl rfl Try.func9 (by kernel_rfl) rfl #[.slice A0 l0.length c0] rfl al_ ?_; (with_reducible refine (laws_big.calls _ _ l0 false _ ?side1 ?side2 A2.out).mono ?_); (case side1 => exact kc_ HR0.out); (case side2 => exact HC0.out); rintro e w' ⟨rfl, ⟨nd, rfl⟩⟩; refine ⟨_, rfl, ?_⟩) | ((with_reducible refine gate_callee (f := 32) rfl ?_); refine goesL_ (some 15) rfl rfl Try.func32 (by kernel_rfl) rfl #[.slice A0 l0.length c0] rfl al_ ?_; (with_reducible refine (spec_DrawPlace.calls k _ _ l0 t602 t603 _ ?side1 ?side2 A4.out).mono ?_); (case side1 => exact kc_ HR0.out); (case side2 => exact HC0.out); rintro e w13 ⟨v604, rfl, ho0, hb⟩; refine ⟨_, rfl, ?_⟩; have n0_ := Aside0.mk (Kd.R_lower ho0 (below_size (be_ HB.out))); have n1_ := Aside0.mk (below_step (be_ HB.out) hb); clear HB; have HO605 := n0_; have HB := n1_; clear n0_ n1_; (try clear hb); (try clear hb2); (try clear hk); (try clear hi); (try clear ho0)) | ((with_reducible refine gate_dst (N := 18) rfl ?_); (try (refine gate_guard (by rfl) ?_; dsimp only)); refine Kd.R_lit k26 _ 26 ?hg (N := 18) ?hd (xs := ([] : List (S26))) (inner := []) (ok := fun _ => True) (okp := fun _ => True) ?hr ?hp (fun _ hk => hk) trivial (Below.refl _ _) (Nat.le_refl _) (by simp) ?_; (case hd => rfl); (case hg => rfl); (case hr => first | (go_simp; done) | (go_simp; rfl)); (case hp => exact (Reps.none _ _)); intro v607 w14 ho15 hb hg_ hnew_; clear hg_ hnew_; (first | rw [← Ny606.out] at ho15 | (simp only [Int.reduceToNat] at ho15; rw [← Ny606.out] at ho15)); have n0_ := Aside0.mk (Kd.R_elder' (kr_ HO605.out) (Kd.R_base ho15) hb); have n1_ := Aside0.mk (Kd.R_lower (Kd.R_new' ho15 (Kd.R_lt (kr_ HO605.out))) (below_size (be_ HB.out))); have n2_ := Aside0.mk (below_step (be_ HB.out) hb); clear HO605; clear HB; have HO605 := n0_; have HO608 := n1_; have HB := n2_; clear n0_ n1_ n2_; clear hb ho15; obtain ⟨Ao17, co17, eo17⟩ := Kd.R_slice HO605.out; subst eo17) | ((with_reducible refine gate_builtin (b := .append) (xs := #[.tmp 18, .tmp 19]) rfl ?_); (try (refine gate_guard (by rfl) ?_; dsimp only)); at_builtin; refine Kd.R_append_rows k26 (w0 := w) w.heap.size rfl (.tmp 18) (.tmp 19) 24 26 (.agg #[(.string ⟨#[]⟩), (.string ⟨#[]⟩)]) 32 rfl Try.underlying24 info26 rfl (by decide) (by omega) v607 y606 t602 _ _ _ (fun k_ => some k_ ≠ (.slice Ao17 t602.length co17 : Value).ownBlock) (fun _ => False) rfl rfl ?aO ?aR (fun _ _ h => h) (fun _ h => h.elim) ?aF ?aB ?aS ?aL ?_; (case aR => exact kc_ (Kd.R_reads' HO605.out).2.2); (case aB => exact (be_ HB.out)); (case aF => exact (fun k_ hk => Kd.fresh' (Kd.R_lt (kr_ HO605.out)) k_ hk)); (case aO => exact (by (with_reducible repeat (first | apply Kd.R_alloc | apply Kd.R_drewN | apply Kd.R_drew)); exact Kd.R_mono HO608.out (fun _ hk => hk.2))); (case aS => exact (below_size (be_ HB.out))); (case aL => have := LMc5.out; omega); intro v610 w16 ho hb hg hat; rw [← Ny609.out] at ho; have n0_ := Aside0.mk (Kd.R_after (ok := (fun _ => True)) (kr_ HO605.out) hg hat); have n1_ := Aside0.mk (hb); have n2_ := Aside0.mk (ho); clear HO605; clear HB; clear HO608; have HO605 := n0_; have HB := n1_; have HO611 := n2_; clear n0_ n1_ n2_; clear ho hb hg hat; obtain ⟨Ao18, co18, eo18⟩ := Kd.R_slice HO611.out; subst eo18; have p612 : 0 ≤ (t603 : Int) := of_decide_eq_true (by first | (with_reducible assumption) | assumption); have q612 : t603 < (y609.length : Int) := of_decide_eq_true (by first | (with_reducible assumption) | assumption); obtain ⟨ad612, e612, hx612_0, hx612_1⟩ := at_T26 (Kd.R_reads' HO611.out).2.2 t603 p612 q612; cases e612; replace p612 := eq_true p612; replace q612 := eq_true q612; have p9 : 0 ≤ (t603 : Int) := of_decide_eq_true (by first | (with_reducible assumption) | assumption); have q9 : (t603 : Int) < ((y609.length : Int) : Int) := of_decide_eq_true (by first | (with_reducible assumption) | assumption); obtain ⟨go9, co9, eo9, gb9, gl9, cl9, HG9⟩ := Kd.R_form HO611.out (by omega); (first | cases eo9 | (injection eo9 with ea_ en_ ec_; (first | subst ea_ | (injection ea_ with ea_; subst ea_)); subst ec_; clear en_)); have GB9 := Aside0.mk gb9; have GG9 := Aside0.mk HG9; clear gb9 gl9 HG9; (first | simp only [add_plain] at hx612_0 | skip); (first | simp only [add_plain] at hx612_1 | skip); obtain ⟨ce9, hcl9, hM9, hcc9, hfr9⟩ := Kd.R_elem HO611.out z26 (t603 : Int) p9 q9; obtain rfl := k26_openM hM9; have hx9_0 : w16.cell? ⟨go9, (t603 : Int).toNat * 2, none⟩ = some (.string ((rd_T26 y609 t603).f0)) := hcc9 0 _ rfl; have hx9_1 : w16.cell? ⟨go9, (t603 : Int).toNat * 2 + 1, none⟩ = some (.string ((rd_T26 y609 t603).f1)) := hcc9 1 _ rfl; have hf9_0 : w16.frozen? ⟨go9, (t603 : Int).toNat * 2, none⟩ = false := hfr9 0; have hf9_1 : w16.frozen? ⟨go9, (t603 : Int).toNat * 2 + 1, none⟩ = false := hfr9 1; clear hcl9 hcc9 hfr9 hM9; replace p9 := eq_true p9; replace q9 := eq_true q9; have HX19 := Aside0.mk (show Kd.R k26 26 w16 w.heap.size (fun k_ => some k_ ≠ (.slice Ao17 t602.length co17 : Value).ownBlock) (.slice (some ⟨go9, 0, none⟩) y609.length co18) y609 from (kr_ HO611.out)); obtain ⟨ce19, hcl19, hM19, hcc19, hfr19⟩ := Kd.R_elem HX19.out z26 (t603 : Int) (of_decide_eq_true (by first | (with_reducible assumption) | assumption)) (by have h_ : (t603 : Int) < ((y609.length : Int) : Int) := of_decide_eq_true (by first | (with_reducible assumption) | assumption); first | exact h_ | (have e_ := (Kd.R_reads' HO611.out).1; omega) | simpa using h_); obtain rfl := k26_openM hM19; have HP19 := Kd.R_seg HX19.out (t603 : Int) (of_decide_eq_true (by first | (with_reducible assumption) | assumption)) (by have h_ : (t603 : Int) < ((y609.length : Int) : Int) := of_decide_eq_true (by first | (with_reducible assumption) | assumption); first | exact h_ | (have e_ := (Kd.R_reads' HO611.out).1; omega) | simpa using h_) (seg := [.string (((rd_T26 y609 t603).f1) ++ (⟨#[33]⟩ : ByteArray))]) (j := 1) hcl19 hcc19 (show 2 ≤ 2 from by decide) (x' := (⟨(rd_T26 y609 t603).f0, ((rd_T26 y609 t603).f1) ++ (⟨#[33]⟩ : ByteArray)⟩ : S26)) (k26_mkM _ _ _ (⟨(rd_T26 y609 t603).f0, ((rd_T26 y609 t603).f1) ++ (⟨#[33]⟩ : ByteArray)⟩ : S26) ) (fun _ hk => hk); have hx19_1 := hcc19 1 _ rfl; (try simp only [show (k26).sz = 2 from rfl, Nat.mul_one, Nat.add_zero] at hx19_1); have hf19_1 := hfr19 1; (try simp only [show (k26).sz = 2 from rfl, Nat.mul_one, Nat.add_zero] at hf19_1); clear hcl19 hcc19 hfr19 hM19) | ((with_reducible refine gate_store (t := 9) (p := 30) rfl ?_); refine store_event (t := 9) (p := 30) (v := ?vo_w20) (w1 := (w16.setCell ⟨go9, (t603 : Int).toNat * 2 + 1, none⟩ (.string (((rd_T26 y609 t603).f1) ++ (⟨#[33]⟩ : ByteArray))))) ?hg ?ho ?hn ?hr ?_; (case ho => rfl); (case hg => rfl); (case hn => rfl); (case hr => first | (go_simp; done) | (go_simp; rfl)); intro w20 hw; have hg : w16.grownBy w20 (some go9) := (by rw [hw]; exact HP19.2); have hp_ : Kd.R k26 26 w20 w.heap.size (fun k_ => some k_ ≠ (.slice Ao17 t602.length co17 : Value).ownBlock) (.slice (some ⟨go9, 0, none⟩) y609.length co18) y613 := (by rw [hw, Ny613.out]; exact HP19.1); clear HP19; have n0_ := Aside0.mk (Kd.R_after (v := (.slice (some ⟨go9, 0, none⟩) y609.length co18)) (v1 := (.slice (some ⟨go9, 0, none⟩) y609.length co18)) (ok := (fun _ => True)) (kr_ HO605.out) hg (.inl rfl)); have n1_ := Aside0.mk (hp_); have n2_ := Aside0.mk ((by rw [hw]; exact below_set (HB.out) GB9.out : Below w.heap.size w w20)); clear HO605; clear HO611; clear HB; have HO605 := n0_; have HO611 := n1_; have HB := n2_; clear n0_ n1_ n2_; clear hg hw hp_) | ((with_reducible refine gate_callee (f := 16) rfl ?_); refine goesL_ (some 32) rfl rfl Try.func16 (by kernel_rfl) rfl #[.slice Ao17 t602.length co17] rfl al_ ?_; (with_reducible refine (impl_RootOf.calls k _ _ t602 t614 _ ?side1 ?side2 A10.out).mono ?_); (case side1 => exact kc_ (Kd.R_reads' HO605.out).2.2); (case side2 => exact (Kd.R_reads' HO605.out).2.1); rintro e w21 ⟨rfl, hb⟩; refine ⟨_, rfl, ?_⟩; have n0_ := Aside0.mk (Kd.R_below (kr_ HO605.out) hb); have n1_ := Aside0.mk (Kd.R_below (kr_ HO611.out) hb); have n2_ := Aside0.mk (below_step (be_ HB.out) hb); clear HO605; clear HO611; clear HB; have HO605 := n0_; have HO611 := n1_; have HB := n2_; clear n0_ n1_ n2_; (try clear hb); (try clear hb2); (try clear hk); (try clear hi)) | ((with_reducible refine gate_callee (f := 16) rfl ?_); refine goesL_ (some 34) rfl rfl Try.func16 (by kernel_rfl) rfl #[.slice (some ⟨go9, 0, none⟩) y613.length co18] rfl (by (try simp only [List.map_toArray, List.map_cons, List.map_nil]); first | done | (rw [show y613.length = y609.length from (Kd.R_reads' HO611.out).1.symm] <;> rfl) | rfl | (simp only [List.length_drop, List.length_take]; rfl)) ?_; (with_reducible refine (impl_RootOf.calls k _ _ y613 t615 _ ?side1 ?side2 A11.out).mono ?_); (case side1 => exact kc_ (Kd.R_reads' HO611.out).2.2); (case side2 => rw [show y613.length = y609.length from (Kd.R_reads' HO611.out).1.symm]; exact (Kd.R_reads' HO611.out).2.1); rintro e w22 ⟨rfl, hb⟩; refine ⟨_, rfl, ?_⟩; have n0_ := Aside0.mk (Kd.R_below (kr_ HO605.out) hb); have n1_ := Aside0.mk (Kd.R_below (kr_ HO611.out) hb); have n2_ := Aside0.mk (below_step (be_ HB.out) hb); clear HO605; clear HO611; clear HB; have HO605 := n0_; have HO611 := n1_; have HB := n2_; clear n0_ n1_ n2_; (try clear hb); (try clear hb2); (try clear hk); (try clear hi)))
    (try simp only [Act.put, sa_, sz_, ss_])
    go_cut [48] (fun v48 wc => ∃ (kq : Nat) (x48_11 : Bool), v48 = .bool x48_11 ∧ Aside0 (laws_FnRoots.j0 kq t602 t603 y613 t614 t615 x48_11 = some r) ∧ Aside0 (kq ≤ k) ∧ Aside0 (Kd.R k26 26 wc w.heap.size (fun k_ => some k_ ≠ ((.slice (some ⟨go9, 0, none⟩) y609.length co18) : Value).ownBlock) (.slice Ao17 t602.length co17) t602) ∧ Aside0 (Kd.R k26 26 wc w.heap.size (fun k_ => some k_ ≠ ((.slice Ao17 t602.length co17) : Value).ownBlock) (.slice (some ⟨go9, 0, none⟩) y609.length co18) y613) ∧ Aside0 (Below w.heap.size w wc))
    case first =>
     have H := HC12.out
     clear HC12
     replace H := Option.bind_eq_some_iff.mp H
     obtain ⟨t616, A230, H⟩ := H
     have A23 := Aside0.mk A230
     clear A230
     by_cases c24 : t614.toList = t616.toList
     · rw [if_pos c24] at H
       have c24b0 : (t614.toList == t616.toList) = true := beq_iff_eq.mpr c24
       have c24b1 : (t614.toList != t616.toList) = false := bne_eq_false_iff_eq.mpr c24
       clear c24
       (first | rw [c24b0] | (simp only [i64_w, i32_w]; rw [c24b0]) | skip)
       by_cases c25 : (t614.size : Int) = 32
       · rw [if_pos c25] at H
         have c25b0 : ((t614.size : Int) == 32) = true := beq_iff_eq.mpr c25
         have c25b1 : ((t614.size : Int) != 32) = false := bne_eq_false_iff_eq.mpr c25
         clear c25
         have H' := Aside0.mk H
         clear H
         go_wp2_with (first | ((with_reducible refine gate_callee (f := 29) rfl ?_); refine goesL_ (some 37) rfl rfl Try.func29 (by kernel_rfl) rfl #[.slice Ao17 t602.length co17] rfl al_ ?_; (with_reducible refine (spec_RootOf.calls k _ _ t602 t616 _ ?side1 ?side2 A23.out).mono ?_); (case side1 => exact kc_ (Kd.R_reads' HO605.out).2.2); (case side2 => exact (Kd.R_reads' HO605.out).2.1); rintro e w26 ⟨rfl, hb⟩; refine ⟨_, rfl, ?_⟩; have n0_ := Aside0.mk (Kd.R_below (kr_ HO605.out) hb); have n1_ := Aside0.mk (Kd.R_below (kr_ HO611.out) hb); have n2_ := Aside0.mk (below_step (be_ HB.out) hb); clear HO605; clear HO611; clear HB; have HO605 := n0_; have HO611 := n1_; have HB := n2_; clear n0_ n1_ n2_; (try clear hb); (try clear hb2); (try clear hk); (try clear hi)))
         go_meet
         case rel => exact ⟨_, (((t615.size : Int) != 32)), (by first | rfl | (simp; done) | (simp [*]; done)), H', ⟨by first | omega | exact Nat.le_refl _⟩, ⟨by (with_reducible repeat (first | apply Kd.R_alloc | apply Kd.R_drewN | apply Kd.R_drew)); exact Kd.R_mono HO605.out (fun _ hk => hk.2)⟩, ⟨by (with_reducible repeat (first | apply Kd.R_alloc | apply Kd.R_drewN | apply Kd.R_drew)); exact HO611.out⟩, ⟨be_ HB.out⟩⟩
       · rw [if_neg c25] at H
         have c25b0 : ((t614.size : Int) == 32) = false := beq_eq_false_iff_ne.mpr c25
         have c25b1 : ((t614.size : Int) != 32) = true := bne_iff_ne.mpr c25
         have H' := Aside0.mk H
         clear H
         go_wp2_with (first | ((with_reducible refine gate_callee (f := 29) rfl ?_); refine goesL_ (some 37) rfl rfl Try.func29 (by kernel_rfl) rfl #[.slice Ao17 t602.length co17] rfl al_ ?_; (with_reducible refine (spec_RootOf.calls k _ _ t602 t616 _ ?side1 ?side2 A23.out).mono ?_); (case side1 => exact kc_ (Kd.R_reads' HO605.out).2.2); (case side2 => exact (Kd.R_reads' HO605.out).2.1); rintro e w27 ⟨rfl, hb⟩; refine ⟨_, rfl, ?_⟩; have n0_ := Aside0.mk (Kd.R_below (kr_ HO605.out) hb); have n1_ := Aside0.mk (Kd.R_below (kr_ HO611.out) hb); have n2_ := Aside0.mk (below_step (be_ HB.out) hb); clear HO605; clear HO611; clear HB; have HO605 := n0_; have HO611 := n1_; have HB := n2_; clear n0_ n1_ n2_; (try clear hb); (try clear hb2); (try clear hk); (try clear hi)))
         go_meet
         case rel => exact ⟨_, (true), (by first | rfl | (simp; done) | (simp [*]; done)), H', ⟨by first | omega | exact Nat.le_refl _⟩, ⟨by (with_reducible repeat (first | apply Kd.R_alloc | apply Kd.R_drewN | apply Kd.R_drew)); exact Kd.R_mono HO605.out (fun _ hk => hk.2)⟩, ⟨by (with_reducible repeat (first | apply Kd.R_alloc | apply Kd.R_drewN | apply Kd.R_drew)); exact HO611.out⟩, ⟨be_ HB.out⟩⟩
     · rw [if_neg c24] at H
       have c24b0 : (t614.toList == t616.toList) = false := beq_eq_false_iff_ne.mpr c24
       have c24b1 : (t614.toList != t616.toList) = true := bne_iff_ne.mpr c24
       (first | rw [c24b0] | (simp only [i64_w, i32_w]; rw [c24b0]) | skip)
       have H' := Aside0.mk H
       clear H
       go_wp2_with (first | ((with_reducible refine gate_callee (f := 29) rfl ?_); refine goesL_ (some 37) rfl rfl Try.func29 (by kernel_rfl) rfl #[.slice Ao17 t602.length co17] rfl al_ ?_; (with_reducible refine (spec_RootOf.calls k _ _ t602 t616 _ ?side1 ?side2 A23.out).mono ?_); (case side1 => exact kc_ (Kd.R_reads' HO605.out).2.2); (case side2 => exact (Kd.R_reads' HO605.out).2.1); rintro e w28 ⟨rfl, hb⟩; refine ⟨_, rfl, ?_⟩; have n0_ := Aside0.mk (Kd.R_below (kr_ HO605.out) hb); have n1_ := Aside0.mk (Kd.R_below (kr_ HO611.out) hb); have n2_ := Aside0.mk (below_step (be_ HB.out) hb); clear HO605; clear HO611; clear HB; have HO605 := n0_; have HO611 := n1_; have HB := n2_; clear n0_ n1_ n2_; (try clear hb); (try clear hb2); (try clear hk); (try clear hi)))
       go_meet
       case rel => exact ⟨_, (true), (by first | rfl | (simp; done) | (simp [*]; done)), H', ⟨by first | omega | exact Nat.le_refl _⟩, ⟨by (with_reducible repeat (first | apply Kd.R_alloc | apply Kd.R_drewN | apply Kd.R_drew)); exact Kd.R_mono HO605.out (fun _ hk => hk.2)⟩, ⟨by (with_reducible repeat (first | apply Kd.R_alloc | apply Kd.R_drewN | apply Kd.R_drew)); exact HO611.out⟩, ⟨be_ HB.out⟩⟩
    case rest =>
     clear HC12
     try clear c1
     try clear hx1
     try clear hf1
     try clear c2
     try clear p2
     try clear c3
     try clear c5
     try clear c6
     try clear c6b0
     try clear p6
     try clear q6
     try clear hx6
     try clear c7
     try clear c7b0
     try clear c8
     try clear c8b0
     try clear c8b1
     try clear c8b2
     try clear c9
     try clear p9
     try clear q9
     try clear hx9
     try clear hf9
     try clear c16
     try clear c19
     try clear hx19
     try clear hf19
     try clear c24
     try clear c24b0
     try clear c24b1
     try clear c25
     try clear c25b0
     try clear c25b1
     try clear hx19_1
     try clear hx612_0
     try clear hx612_1
     try clear hx9_0
     try clear hx9_1
     try clear p612
     try clear p9
     try clear q612
     try clear q9
     obtain ⟨kq, x48_11, rfl, HA, HJ11, HO_3, HO_5, HB⟩ := hcut
     have hl5_11 := (Kd.R_reads' HO_5.out).1
     rw [hl5_11] at HO_5
     (try simp only [hl5_11])
     (try simp only [hl5_11] at HO_3)
     cases kq with
     | zero => exact absurd HA.out (by simp [laws_FnRoots.j0])
     | succ kj11 =>
      have H := HA.out
      clear HA
      simp only [laws_FnRoots.j0] at H
      by_cases c29 : x48_11 = true
      · subst c29
        have H1 : (some false) = some r := by rw [if_pos rfl] at H; exact H
        clear H
        have H := H1
        clear H1
        obtain rfl := Option.some.inj H
        go_wp2
        go_ret
        exact ⟨by first | rfl | (simp [errW_none, errW_some] <;> rfl) | (simp [*, errW_none, errW_some] <;> rfl), be_ HB.out⟩
      · replace c29 := Bool.eq_false_iff.mpr c29
        subst c29
        have H1 : (if 0 ≤ t603 then (if t603 < (y613.length : Int) then ((impl_PathOf.f kj11 y613 t603).bind fun t618 => ((impl_PartAt.f kj11 t602 ((rd_T26 y613 t603).f0) ((rd_T26 y613 t603).f1) t603 (y613.length : Int) t618).bind fun bt621 => (if bt621.2.2 = true then ((impl_IsClash.f kj11 bt621.1 bt621.2.1 32).bind fun t624 => (if ((t614.toList == t615.toList) == t624) = true then (if 1 ≤ (t602.length : Int) then ((impl_InnerOf.f kj11 (t602.take 1)).bind fun t629 => (if 0 < (t602.length : Int) then ((impl_LeafOf.f kj11 ((rd_T26 t602 0).f0) ((rd_T26 t602 0).f1)).bind fun t631 => (some (t629.toList == t631.toList))) else (none))) else (none)) else (some false))) else (if ((t614.toList == t615.toList) == false) = true then (if 1 ≤ (t602.length : Int) then ((impl_InnerOf.f kj11 (t602.take 1)).bind fun t636 => (if 0 < (t602.length : Int) then ((impl_LeafOf.f kj11 ((rd_T26 t602 0).f0) ((rd_T26 t602 0).f1)).bind fun t638 => (some (t636.toList == t638.toList))) else (none))) else (none)) else (some false))))) else (none)) else (none)) = some r := by rw [if_neg (show ¬ (false = true) by decide)] at H; exact H
        clear H
        have H := H1
        clear H1
        by_cases c30 : 0 ≤ t603
        rotate_left
        · rw [if_neg c30] at H; exact absurd H (by simp)
        rw [if_pos c30] at H
        have c30b0 : decide (0 ≤ t603) = true := decide_eq_true c30
        clear c30
        by_cases c31 : t603 < (y613.length : Int)
        rotate_left
        · rw [if_neg c31] at H; exact absurd H (by simp)
        rw [if_pos c31] at H
        have c31b0 : decide (t603 < (y613.length : Int)) = true := decide_eq_true c31
        clear c31
        replace H := Option.bind_eq_some_iff.mp H
        obtain ⟨t618, A320, H⟩ := H
        have A32 := Aside0.mk A320
        clear A320
        replace H := Option.bind_eq_some_iff.mp H
        obtain ⟨⟨t621, t622, t623⟩, A330, H⟩ := H; try dsimp only at H
        have A33 := Aside0.mk A330
        clear A330
        by_cases c34 : t623 = true
        · subst c34
          have H1 : ((impl_IsClash.f kj11 t621 t622 32).bind fun t624 => (if ((t614.toList == t615.toList) == t624) = true then (if 1 ≤ (t602.length : Int) then ((impl_InnerOf.f kj11 (t602.take 1)).bind fun t629 => (if 0 < (t602.length : Int) then ((impl_LeafOf.f kj11 ((rd_T26 t602 0).f0) ((rd_T26 t602 0).f1)).bind fun t631 => (some (t629.toList == t631.toList))) else (none))) else (none)) else (some false))) = some r := by rw [if_pos rfl] at H; exact H
          clear H
          have H := H1
          clear H1
          replace H := Option.bind_eq_some_iff.mp H
          obtain ⟨t624, A350, H⟩ := H
          have A35 := Aside0.mk A350
          clear A350
          by_cases c36 : ((t614.toList == t615.toList) == t624) = true
          · rw [if_pos c36] at H
            have c36b0 : ((t614.toList == t615.toList) == t624) = true := c36
            (try (have c36b1 : decide ((t614.toList == t615.toList) = t624) = true := by simpa using c36))
            (try (have c36b2 : ((t614.toList == t615.toList) == t624) = true := by simpa using c36))
            clear c36
            by_cases c37 : 1 ≤ (t602.length : Int)
            rotate_left
            · rw [if_neg c37] at H; exact absurd H (by simp)
            rw [if_pos c37] at H
            have c37b0 := eq_true c37
            have c37b1 : decide (1 ≤ (t602.length : Int)) = true := decide_eq_true c37
            clear c37
            obtain ⟨y625, hy625⟩ : ∃ y_ : List (S26), y_ = (t602.take 1) := ⟨_, rfl⟩
            replace H : ((impl_InnerOf.f kj11 y625).bind fun t629 => (if 0 < (t602.length : Int) then ((impl_LeafOf.f kj11 ((rd_T26 t602 0).f0) ((rd_T26 t602 0).f1)).bind fun t631 => (some (t629.toList == t631.toList))) else (none))) = some r := by first | (rw [hy625]; with_reducible exact H) | (have H2_ := (Option.bind_some _ _).symm.trans H; rw [hy625]; with_reducible exact H2_) | (have H2_ := (Option.bind_some _ _).symm.trans H; with_reducible exact H2_) | with_reducible exact H | (rw [hy625]; exact H) | exact H
            have Ny625 := Aside0.mk hy625
            clear hy625
            replace H := Option.bind_eq_some_iff.mp H
            obtain ⟨t629, A380, H⟩ := H
            have A38 := Aside0.mk A380
            clear A380
            by_cases c39 : 0 < (t602.length : Int)
            rotate_left
            · rw [if_neg c39] at H; exact absurd H (by simp)
            rw [if_pos c39] at H
            have c39b0 : decide (0 < (t602.length : Int)) = true := decide_eq_true c39
            have c39b1 : decide (0 < t602.length) = true := decide_eq_true (by omega)
            clear c39
            replace H := Option.bind_eq_some_iff.mp H
            obtain ⟨t631, A400, H⟩ := H
            have A40 := Aside0.mk A400
            clear A400
            obtain rfl := Option.some.inj H
            try go_wp2
            have n0_ := Aside0.mk (Kd.R_drew HO_3.out)
            have n1_ := Aside0.mk (Kd.R_drew HO_5.out)
            have n2_ := Aside0.mk (below_drew1 HB.out)
            clear HO_3
            clear HO_5
            clear HB
            have HO_3 := n0_
            have HO_5 := n1_
            have HB := n2_
            clear n0_ n1_ n2_
            have p617 : 0 ≤ (t603 : Int) := of_decide_eq_true (by first | (with_reducible assumption) | assumption)
            have q617 : t603 < (y613.length : Int) := of_decide_eq_true (by first | (with_reducible assumption) | assumption)
            obtain ⟨ad617, e617, hx617_0, hx617_1⟩ := at_T26 (Kd.R_reads' HO_5.out).2.2 t603 p617 q617
            obtain rfl : (⟨go9, 0, none⟩ : Addr) = ad617 := (by injection e617)
            (first | simp only [add_plain] at hx617_0 | simp only [add_at] at hx617_0 | simp only [Addr.add, Nat.zero_add] at hx617_0 | skip)
            (first | simp only [add_plain] at hx617_1 | simp only [add_at] at hx617_1 | simp only [Addr.add, Nat.zero_add] at hx617_1 | skip)
            replace p617 := eq_true p617
            replace q617 := eq_true q617
            refine start_ (n := 19) (S := fun w' => w'.cell? ⟨go9, (t603).toNat * 2, none⟩ = some (.string ((rd_T26 y613 t603).f0)) ∧ w'.cell? ⟨go9, (t603).toNat * 2 + 1, none⟩ = some (.string ((rd_T26 y613 t603).f1))) (ds := []) (bq_ 0 19) (by kernel_rfl) rfl rfl ⟨hx617_0, hx617_1⟩ (fun hHeld => ?_); refine with_tabW laws_FnRoots.tab10 laws_FnRoots.bits10 (fun HT_ HW_ => ?_)
            generalize wc.drew = w41 at HO_3 HO_5 HB hx617_0 hx617_1 hHeld ⊢
            refine pu_ 0 (some 50) (bq_ 1 18) HT_ ?_
            refine pu_ 1 (some 51) (bq_ 2 17) HT_ ?_
            refine pu_ 2 (some 52) (bq_ 3 16) HT_ ?_
            refine pu_ 3 (some 53) (bq_ 4 15) HT_ ?_
            refine pu_ 5 (some 55) #[true, true, true, true, false, true, false, false, false, false, false, false, false, false, false, false, false, false, false] HT_ ?_
            refine pu_ 6 (some 56) #[true, true, true, true, false, true, true, false, false, false, false, false, false, false, false, false, false, false, false] HT_ ?_
            refine pu_ 7 (some 57) #[true, true, true, true, false, true, true, true, false, false, false, false, false, false, false, false, false, false, false] HT_ ?_
            refine pu_ 8 (some 58) #[true, true, true, true, false, true, true, true, true, false, false, false, false, false, false, false, false, false, false] HT_ ?_
            refine pu_ 9 (some 59) #[true, true, true, true, false, true, true, true, true, true, false, false, false, false, false, false, false, false, false] HT_ ?_
            refine take_ (i := 4) (N := some 54) (v := ?_) (a' := ?_) (bq_ 10 9) rfl rfl (take_ofW HT_.out HW_.out (by kernel_rfl)) (fun _ _ _ h => h) (Or.inl ⟨by rfl, ?_⟩) hHeld ?_ ?_
            rotate_left
            · rintro w' ⟨s0, s1⟩
              go_simp
              with_reducible rfl
            rotate_left
            · simp only [Act.put, sa_, sz_, ss_, i64_w, i32_w]; rfl
            refine on_ 10 (some 60) (bq_ 11 8) HT_ (fun K hK => ?_)
            refine goes_ Try.func33 (by kernel_rfl) rfl #[.slice (some ⟨go9, 0, none⟩) y613.length co18, .int .i64 t603] (by rfl) rfl rfl al_ ?_
            with_reducible refine (impl_PathOf.calls kj11 _ _ y613 t603 t618 _ ?side1 ?side2 A32.out).mono ?_
            (case side1 => exact kc_ (Kd.R_reads' HO_5.out).2.2)
            (case side2 => exact (Kd.R_reads' HO_5.out).2.1)
            rintro e w42 ⟨v619, rfl, ho0, hb⟩
            have HS0_ := (hb.cell (World.block_lt_of_cell? _ _ (hHeld.1))).trans (hHeld.1)
            have HS1_ := (hb.cell (World.block_lt_of_cell? _ _ (hHeld.2))).trans (hHeld.2)
            refine ⟨_, rfl, ?_⟩
            have n0_ := Aside0.mk (Kd.R_below (kr_ HO_3.out) hb)
            have n1_ := Aside0.mk (Kd.R_below (kr_ HO_5.out) hb)
            have n2_ := Aside0.mk (Kd.R_lower ho0 (below_size (be_ HB.out)))
            have n3_ := Aside0.mk (below_step (be_ HB.out) hb)
            clear HO_3
            clear HO_5
            clear HB
            have HO_3 := n0_
            have HO_5 := n1_
            have HO620 := n2_
            have HB := n3_
            clear n0_ n1_ n2_ n3_
            (try clear hb)
            (try clear hb2)
            (try clear hk)
            (try clear hi)
            (try clear ho0)
            obtain ⟨Ao43, co43, eo43⟩ := Kd.R_slice HO620.out
            (first | subst eo43 | (injection eo43 with f1_ f2_ f3_; have f4_ := f1_.symm; have f5_ := f3_.symm; clear f1_ f2_ f3_; subst f4_; subst f5_))
            refine hK.out _ _ ⟨HS0_, HS1_⟩ (fun hHeld => ?_)
            clear hK K
            refine nm_ ?_
            refine on_ 11 (some 61) (bq_ 12 7) HT_ (fun K hK => ?_)
            refine goes_ Try.func11 (by kernel_rfl) rfl #[.slice Ao17 t602.length co17, .agg #[.string ((rd_T26 y613 t603).f0), .string ((rd_T26 y613 t603).f1)], .int .i64 t603, .int .i64 (y613.length : Int), .slice Ao43 t618.length co43] (by rfl) rfl rfl al_ ?_
            with_reducible refine (impl_PartAt.calls kj11 _ _ t602 ((rd_T26 y613 t603).f0) ((rd_T26 y613 t603).f1) t603 (y613.length : Int) _ _ t618 t621 t622 true _ ?side1 ?side2 ?side3 ?side4 A33.out).mono ?_
            (case side1 => exact kc_ (Kd.R_reads' HO_3.out).2.2)
            (case side2 => exact (Kd.R_reads' HO_3.out).2.1)
            (case side3 => exact kc_ (Kd.R_reads' HO620.out).2.2)
            (case side4 => exact (Kd.R_reads' HO620.out).2.1)
            rintro e w44 ⟨rfl, hb⟩
            have HS0_ := (hb.cell (World.block_lt_of_cell? _ _ (hHeld.1))).trans (hHeld.1)
            have HS1_ := (hb.cell (World.block_lt_of_cell? _ _ (hHeld.2))).trans (hHeld.2)
            refine ⟨_, rfl, ?_⟩
            have n0_ := Aside0.mk (Kd.R_below (kr_ HO_3.out) hb)
            have n1_ := Aside0.mk (Kd.R_below (kr_ HO_5.out) hb)
            have n2_ := Aside0.mk (Kd.R_below (kr_ HO620.out) hb)
            have n3_ := Aside0.mk (below_step (be_ HB.out) hb)
            clear HO_3
            clear HO_5
            clear HO620
            clear HB
            have HO_3 := n0_
            have HO_5 := n1_
            have HO620 := n2_
            have HB := n3_
            clear n0_ n1_ n2_ n3_
            (try clear hb)
            (try clear hb2)
            (try clear hk)
            (try clear hi)
            refine hK.out _ _ ⟨HS0_, HS1_⟩ (fun hHeld => ?_)
            clear hK K
            refine nm_ ?_
            refine pu_ 12 (some 49) (bq_ 13 6) HT_ ?_
            refine pu_ 13 (some 62) (bq_ 14 5) HT_ ?_
            refine pu_ 14 (some 63) (bq_ 15 4) HT_ ?_
            refine pu_ 15 (some 64) (bq_ 16 3) HT_ ?_
            refine pu_ 16 (some 8) (bq_ 17 2) HT_ ?_
            refine pu_ 17 (some 9) (bq_ 18 1) HT_ ?_
            refine pu_ 18 (some 10) (bq_ 19 0) HT_ ?_
            refine done_ (done_of HT_.out (by kernel_rfl)) ?_
            try go_wp2
            have n0_ := Aside0.mk (Kd.R_drew HO_3.out)
            have n1_ := Aside0.mk (Kd.R_drew HO_5.out)
            have n2_ := Aside0.mk (Kd.R_drew HO620.out)
            have n3_ := Aside0.mk (below_drew1 HB.out)
            clear HO_3
            clear HO_5
            clear HO620
            clear HB
            have HO_3 := n0_
            have HO_5 := n1_
            have HO620 := n2_
            have HB := n3_
            clear n0_ n1_ n2_ n3_
            have p630 : 0 ≤ (0 : Int) := (by omega)
            have q630 : 0 < (t602.length : Int) := of_decide_eq_true (by first | (with_reducible assumption) | assumption)
            obtain ⟨ad630, e630, hx630_0, hx630_1⟩ := at_T26 (Kd.R_reads' HO_3.out).2.2 0 p630 q630
            cases e630
            have qi630 : (0 < t602.length) = True := eq_true (by omega)
            (try rw [show ((0 : Int)).toNat = 0 from rfl] at hx630_0)
            (try rw [show 0 * 2 = 0 from rfl] at hx630_0)
            (try rw [Addr.add_zero'] at hx630_0)
            (try rw [show ((0 : Int)).toNat = 0 from rfl] at hx630_1)
            (try rw [show 0 * 2 = 0 from rfl] at hx630_1)
            (try rw [Addr.add_zero'] at hx630_1)
            replace p630 := eq_true p630
            replace q630 := eq_true q630
            refine start_ (n := 21) (S := fun w' => w'.cell? ad630 = some (.string ((rd_T26 t602 0).f0)) ∧ w'.cell? ⟨ad630.block, ad630.off + 1, none⟩ = some (.string ((rd_T26 t602 0).f1))) (ds := []) (bq_ 0 21) (by kernel_rfl) rfl rfl ⟨hx630_0, hx630_1⟩ (fun hHeld => ?_); refine with_tabW laws_FnRoots.tab11 laws_FnRoots.bits11 (fun HT_ HW_ => ?_)
            generalize w44.drew = w45 at HO_3 HO_5 HO620 HB hx630_0 hx630_1 hHeld ⊢
            refine pu_ 0 (some 65) (bq_ 1 20) HT_ ?_
            refine pu_ 1 (some 66) (bq_ 2 19) HT_ ?_
            refine pu_ 2 (some 67) (bq_ 3 18) HT_ ?_
            refine pu_ 3 (some 68) (bq_ 4 17) HT_ ?_
            refine pu_ 4 (some 69) (bq_ 5 16) HT_ ?_
            refine pu_ 5 (some 70) (bq_ 6 15) HT_ ?_
            refine pu_ 6 (some 71) (bq_ 7 14) HT_ ?_
            refine on_ 7 (some 72) (bq_ 8 13) HT_ (fun K hK => ?_)
            refine goes_ Try.func13 (by kernel_rfl) rfl #[.string t621, .string t622, .int .i64 32] (by rfl) rfl rfl al_ ?_
            with_reducible refine (impl_IsClash.calls kj11 t621 t622 32 t624 _ A35.out).mono ?_
            rintro e w46 ⟨rfl, hb⟩
            have HS0_ := (hb.cell (World.block_lt_of_cell? _ _ (hHeld.1))).trans (hHeld.1)
            have HS1_ := (hb.cell (World.block_lt_of_cell? _ _ (hHeld.2))).trans (hHeld.2)
            refine ⟨_, rfl, ?_⟩
            have n0_ := Aside0.mk (Kd.R_below (kr_ HO_3.out) hb)
            have n1_ := Aside0.mk (Kd.R_below (kr_ HO_5.out) hb)
            have n2_ := Aside0.mk (Kd.R_below (kr_ HO620.out) hb)
            have n3_ := Aside0.mk (below_step (be_ HB.out) hb)
            clear HO_3
            clear HO_5
            clear HO620
            clear HB
            have HO_3 := n0_
            have HO_5 := n1_
            have HO620 := n2_
            have HB := n3_
            clear n0_ n1_ n2_ n3_
            (try clear hb)
            (try clear hb2)
            (try clear hk)
            (try clear hi)
            have q47 : (1 : Int) ≤ ((t602.length : Int) : Int) := of_decide_eq_true (by first | (with_reducible assumption) | assumption)
            obtain ⟨i047, hi047, _, hsz47, _⟩ := info_parts info26
            have hroom47 : t602.length ≤ co17 := (Kd.R_reads' HO_3.out).2.1
            have hC47 : Kd.C k26 _ (some ad630) t602.length t602 := (Kd.R_reads' HO_3.out).2.2
            have hcut47 := cut_to (P := Try.prog) 24 26 .i64 Try.underlying24 hi047 (some ad630) t602.length co17 1 (by omega) q47 hroom47
            have hr47 := Kd.C_take (m := 1) hC47 (by omega)
            have hy47 : y625.length = (1 : Int).toNat := (by rw [Ny625.out, List.length_take]; omega)
            rw [← Ny625.out] at hr47
            rw [← hy47] at hcut47
            have HR628 := Aside0.mk hr47
            have HC628 := Aside0.mk (show y625.length ≤ co17 from by omega)
            clear hr47 hC47 hroom47 hi047 hsz47
            have KY47 := Aside0.mk hy47
            clear hy47
            have KL47 := Aside0.mk (show 1 ≤ t602.length from by omega)
            replace q47 := eq_true q47
            refine hK.out _ _ ⟨HS0_, HS1_⟩ (fun hHeld => ?_)
            clear hK K
            refine nm_ ?_
            refine pu_ 8 (some 73) (bq_ 9 12) HT_ ?_
            refine pu_ 9 (some 74) (bq_ 10 11) HT_ ?_
            refine pu_ 10 (some 75) (bq_ 11 10) HT_ ?_
            refine pu_ 11 (some 76) (bq_ 12 9) HT_ ?_
            refine pu_ 12 (some 77) (bq_ 13 8) HT_ ?_
            refine pu_ 14 (some 79) #[true, true, true, true, true, true, true, true, true, true, true, true, true, false, true, false, false, false, false, false, false] HT_ ?_
            refine pu_ 15 (some 80) #[true, true, true, true, true, true, true, true, true, true, true, true, true, false, true, true, false, false, false, false, false] HT_ ?_
            refine take_ (i := 16) (N := some 81) (v := ?_) (a' := ?_) #[true, true, true, true, true, true, true, true, true, true, true, true, true, false, true, true, true, false, false, false, false] rfl rfl (take_ofW HT_.out HW_.out (by kernel_rfl)) (fun _ _ _ h => h) (Or.inl ⟨by rfl, ?_⟩) hHeld ?_ ?_
            rotate_left
            · rintro w' ⟨s0, s1⟩
              go_simp
              with_reducible rfl
            rotate_left
            · simp only [Act.put, sa_, sz_, ss_, i64_w, i32_w]; rfl
            refine on_ 13 (some 78) (bq_ 17 4) HT_ (fun K hK => ?_)
            refine goes_ Try.func34 (by kernel_rfl) rfl #[.slice (some ad630) y625.length co17] (by rfl) rfl rfl al_ ?_
            with_reducible refine (impl_InnerOf.calls kj11 _ _ y625 t629 _ ?side1 ?side2 A38.out).mono ?_
            (case side1 => repeat (first | exact (by repeat (first | (with_reducible exact HR628.out) | (with_reducible refine Kd.C_alloc ?_ _) | (with_reducible refine Kd.C_drewN ?_ _) | (with_reducible refine Kd.C_drew ?_) | exact HR628.out)) | (with_reducible refine Kd.C_alloc ?_ _) | (with_reducible refine Kd.C_drewN ?_ _) | (with_reducible refine Kd.C_drew ?_)))
            (case side2 => exact HC628.out)
            rintro e w48 ⟨rfl, hb⟩
            have HS0_ := (hb.cell (World.block_lt_of_cell? _ _ (hHeld.1))).trans (hHeld.1)
            have HS1_ := (hb.cell (World.block_lt_of_cell? _ _ (hHeld.2))).trans (hHeld.2)
            refine ⟨_, rfl, ?_⟩
            have n0_ := Aside0.mk (Kd.R_below (kr_ HO_3.out) hb)
            have n1_ := Aside0.mk (Kd.R_below (kr_ HO_5.out) hb)
            have n2_ := Aside0.mk (Kd.R_below (kr_ HO620.out) hb)
            have n3_ := Aside0.mk (Kd.C_below (by repeat (first | (with_reducible exact HR628.out) | (with_reducible refine Kd.C_alloc ?_ _) | (with_reducible refine Kd.C_drewN ?_ _) | (with_reducible refine Kd.C_drew ?_) | exact HR628.out)) hb)
            have n4_ := Aside0.mk (below_step (be_ HB.out) hb)
            clear HO_3
            clear HO_5
            clear HO620
            clear HR628
            clear HB
            have HO_3 := n0_
            have HO_5 := n1_
            have HO620 := n2_
            have HR628 := n3_
            have HB := n4_
            clear n0_ n1_ n2_ n3_ n4_
            (try clear hb)
            (try clear hb2)
            (try clear hk)
            (try clear hi)
            refine hK.out _ _ ⟨HS0_, HS1_⟩ (fun hHeld => ?_)
            clear hK K
            refine nm_ ?_
            refine on_ 17 (some 82) (bq_ 18 3) HT_ (fun K hK => ?_)
            refine goes_ Try.func35 (by kernel_rfl) rfl #[.agg #[.string ((rd_T26 t602 0).f0), .string ((rd_T26 t602 0).f1)]] (by rfl) rfl rfl al_ ?_
            with_reducible refine (impl_LeafOf.calls kj11 ((rd_T26 t602 0).f0) ((rd_T26 t602 0).f1) t631 _ A40.out).mono ?_
            rintro e w49 ⟨rfl, hb⟩
            have HS0_ := (hb.cell (World.block_lt_of_cell? _ _ (hHeld.1))).trans (hHeld.1)
            have HS1_ := (hb.cell (World.block_lt_of_cell? _ _ (hHeld.2))).trans (hHeld.2)
            refine ⟨_, rfl, ?_⟩
            have n0_ := Aside0.mk (Kd.R_below (kr_ HO_3.out) hb)
            have n1_ := Aside0.mk (Kd.R_below (kr_ HO_5.out) hb)
            have n2_ := Aside0.mk (Kd.R_below (kr_ HO620.out) hb)
            have n3_ := Aside0.mk (Kd.C_below (by repeat (first | (with_reducible exact HR628.out) | (with_reducible refine Kd.C_alloc ?_ _) | (with_reducible refine Kd.C_drewN ?_ _) | (with_reducible refine Kd.C_drew ?_) | exact HR628.out)) hb)
            have n4_ := Aside0.mk (below_step (be_ HB.out) hb)
            clear HO_3
            clear HO_5
            clear HO620
            clear HR628
            clear HB
            have HO_3 := n0_
            have HO_5 := n1_
            have HO620 := n2_
            have HR628 := n3_
            have HB := n4_
            clear n0_ n1_ n2_ n3_ n4_
            (try clear hb)
            (try clear hb2)
            (try clear hk)
            (try clear hi)
            refine hK.out _ _ ⟨HS0_, HS1_⟩ (fun hHeld => ?_)
            clear hK K
            refine nm_ ?_
            refine pu_ 18 (some 83) (bq_ 19 2) HT_ ?_
            refine pu_ 19 (some 84) (bq_ 20 1) HT_ ?_
            refine pu_ 20 (some 2) (bq_ 21 0) HT_ ?_
            refine done_ (done_of HT_.out (by kernel_rfl)) ?_
            try go_wp2
            go_ret
            exact ⟨by first | rfl | (simp [errW_none, errW_some] <;> rfl) | (simp [*, errW_none, errW_some] <;> rfl), be_ HB.out⟩
          · rw [if_neg c36] at H
            have c36b0 : ((t614.toList == t615.toList) == t624) = false := by simpa using c36
            (try (have c36b1 : decide ((t614.toList == t615.toList) = t624) = false := by simpa using c36))
            (try (have c36b2 : ((t614.toList == t615.toList) == t624) = false := by simpa using c36))
            (try (have c36b3 : ¬ ((t614.toList == t615.toList) = t624) := by simpa using c36))
            clear c36
            obtain rfl := Option.some.inj H
            try go_wp2
            have n0_ := Aside0.mk (Kd.R_drew HO_3.out)
            have n1_ := Aside0.mk (Kd.R_drew HO_5.out)
            have n2_ := Aside0.mk (below_drew1 HB.out)
            clear HO_3
            clear HO_5
            clear HB
            have HO_3 := n0_
            have HO_5 := n1_
            have HB := n2_
            clear n0_ n1_ n2_
            have p617 : 0 ≤ (t603 : Int) := of_decide_eq_true (by first | (with_reducible assumption) | assumption)
            have q617 : t603 < (y613.length : Int) := of_decide_eq_true (by first | (with_reducible assumption) | assumption)
            obtain ⟨ad617, e617, hx617_0, hx617_1⟩ := at_T26 (Kd.R_reads' HO_5.out).2.2 t603 p617 q617
            obtain rfl : (⟨go9, 0, none⟩ : Addr) = ad617 := (by injection e617)
            (first | simp only [add_plain] at hx617_0 | simp only [add_at] at hx617_0 | simp only [Addr.add, Nat.zero_add] at hx617_0 | skip)
            (first | simp only [add_plain] at hx617_1 | simp only [add_at] at hx617_1 | simp only [Addr.add, Nat.zero_add] at hx617_1 | skip)
            replace p617 := eq_true p617
            replace q617 := eq_true q617
            refine start_ (n := 19) (S := fun w' => w'.cell? ⟨go9, (t603).toNat * 2, none⟩ = some (.string ((rd_T26 y613 t603).f0)) ∧ w'.cell? ⟨go9, (t603).toNat * 2 + 1, none⟩ = some (.string ((rd_T26 y613 t603).f1))) (ds := []) (bq_ 0 19) (by kernel_rfl) rfl rfl ⟨hx617_0, hx617_1⟩ (fun hHeld => ?_); refine with_tabW laws_FnRoots.tab10 laws_FnRoots.bits10 (fun HT_ HW_ => ?_)
            generalize wc.drew = w50 at HO_3 HO_5 HB hx617_0 hx617_1 hHeld ⊢
            refine pu_ 0 (some 50) (bq_ 1 18) HT_ ?_
            refine pu_ 1 (some 51) (bq_ 2 17) HT_ ?_
            refine pu_ 2 (some 52) (bq_ 3 16) HT_ ?_
            refine pu_ 3 (some 53) (bq_ 4 15) HT_ ?_
            refine pu_ 5 (some 55) #[true, true, true, true, false, true, false, false, false, false, false, false, false, false, false, false, false, false, false] HT_ ?_
            refine pu_ 6 (some 56) #[true, true, true, true, false, true, true, false, false, false, false, false, false, false, false, false, false, false, false] HT_ ?_
            refine pu_ 7 (some 57) #[true, true, true, true, false, true, true, true, false, false, false, false, false, false, false, false, false, false, false] HT_ ?_
            refine pu_ 8 (some 58) #[true, true, true, true, false, true, true, true, true, false, false, false, false, false, false, false, false, false, false] HT_ ?_
            refine pu_ 9 (some 59) #[true, true, true, true, false, true, true, true, true, true, false, false, false, false, false, false, false, false, false] HT_ ?_
            refine take_ (i := 4) (N := some 54) (v := ?_) (a' := ?_) (bq_ 10 9) rfl rfl (take_ofW HT_.out HW_.out (by kernel_rfl)) (fun _ _ _ h => h) (Or.inl ⟨by rfl, ?_⟩) hHeld ?_ ?_
            rotate_left
            · rintro w' ⟨s0, s1⟩
              go_simp
              with_reducible rfl
            rotate_left
            · simp only [Act.put, sa_, sz_, ss_, i64_w, i32_w]; rfl
            refine on_ 10 (some 60) (bq_ 11 8) HT_ (fun K hK => ?_)
            refine goes_ Try.func33 (by kernel_rfl) rfl #[.slice (some ⟨go9, 0, none⟩) y613.length co18, .int .i64 t603] (by rfl) rfl rfl al_ ?_
            with_reducible refine (impl_PathOf.calls kj11 _ _ y613 t603 t618 _ ?side1 ?side2 A32.out).mono ?_
            (case side1 => exact kc_ (Kd.R_reads' HO_5.out).2.2)
            (case side2 => exact (Kd.R_reads' HO_5.out).2.1)
            rintro e w51 ⟨v619, rfl, ho0, hb⟩
            have HS0_ := (hb.cell (World.block_lt_of_cell? _ _ (hHeld.1))).trans (hHeld.1)
            have HS1_ := (hb.cell (World.block_lt_of_cell? _ _ (hHeld.2))).trans (hHeld.2)
            refine ⟨_, rfl, ?_⟩
            have n0_ := Aside0.mk (Kd.R_below (kr_ HO_3.out) hb)
            have n1_ := Aside0.mk (Kd.R_below (kr_ HO_5.out) hb)
            have n2_ := Aside0.mk (Kd.R_lower ho0 (below_size (be_ HB.out)))
            have n3_ := Aside0.mk (below_step (be_ HB.out) hb)
            clear HO_3
            clear HO_5
            clear HB
            have HO_3 := n0_
            have HO_5 := n1_
            have HO620 := n2_
            have HB := n3_
            clear n0_ n1_ n2_ n3_
            (try clear hb)
            (try clear hb2)
            (try clear hk)
            (try clear hi)
            (try clear ho0)
            obtain ⟨Ao52, co52, eo52⟩ := Kd.R_slice HO620.out
            (first | subst eo52 | (injection eo52 with f1_ f2_ f3_; have f4_ := f1_.symm; have f5_ := f3_.symm; clear f1_ f2_ f3_; subst f4_; subst f5_))
            refine hK.out _ _ ⟨HS0_, HS1_⟩ (fun hHeld => ?_)
            clear hK K
            refine nm_ ?_
            refine on_ 11 (some 61) (bq_ 12 7) HT_ (fun K hK => ?_)
            refine goes_ Try.func11 (by kernel_rfl) rfl #[.slice Ao17 t602.length co17, .agg #[.string ((rd_T26 y613 t603).f0), .string ((rd_T26 y613 t603).f1)], .int .i64 t603, .int .i64 (y613.length : Int), .slice Ao52 t618.length co52] (by rfl) rfl rfl al_ ?_
            with_reducible refine (impl_PartAt.calls kj11 _ _ t602 ((rd_T26 y613 t603).f0) ((rd_T26 y613 t603).f1) t603 (y613.length : Int) _ _ t618 t621 t622 true _ ?side1 ?side2 ?side3 ?side4 A33.out).mono ?_
            (case side1 => exact kc_ (Kd.R_reads' HO_3.out).2.2)
            (case side2 => exact (Kd.R_reads' HO_3.out).2.1)
            (case side3 => exact kc_ (Kd.R_reads' HO620.out).2.2)
            (case side4 => exact (Kd.R_reads' HO620.out).2.1)
            rintro e w53 ⟨rfl, hb⟩
            have HS0_ := (hb.cell (World.block_lt_of_cell? _ _ (hHeld.1))).trans (hHeld.1)
            have HS1_ := (hb.cell (World.block_lt_of_cell? _ _ (hHeld.2))).trans (hHeld.2)
            refine ⟨_, rfl, ?_⟩
            have n0_ := Aside0.mk (Kd.R_below (kr_ HO_3.out) hb)
            have n1_ := Aside0.mk (Kd.R_below (kr_ HO_5.out) hb)
            have n2_ := Aside0.mk (Kd.R_below (kr_ HO620.out) hb)
            have n3_ := Aside0.mk (below_step (be_ HB.out) hb)
            clear HO_3
            clear HO_5
            clear HO620
            clear HB
            have HO_3 := n0_
            have HO_5 := n1_
            have HO620 := n2_
            have HB := n3_
            clear n0_ n1_ n2_ n3_
            (try clear hb)
            (try clear hb2)
            (try clear hk)
            (try clear hi)
            refine hK.out _ _ ⟨HS0_, HS1_⟩ (fun hHeld => ?_)
            clear hK K
            refine nm_ ?_
            refine pu_ 12 (some 49) (bq_ 13 6) HT_ ?_
            refine pu_ 13 (some 62) (bq_ 14 5) HT_ ?_
            refine pu_ 14 (some 63) (bq_ 15 4) HT_ ?_
            refine pu_ 15 (some 64) (bq_ 16 3) HT_ ?_
            refine pu_ 16 (some 8) (bq_ 17 2) HT_ ?_
            refine pu_ 17 (some 9) (bq_ 18 1) HT_ ?_
            refine pu_ 18 (some 10) (bq_ 19 0) HT_ ?_
            refine done_ (done_of HT_.out (by kernel_rfl)) ?_
            try go_wp2
            have n0_ := Aside0.mk (Kd.R_drew HO_3.out)
            have n1_ := Aside0.mk (Kd.R_drew HO_5.out)
            have n2_ := Aside0.mk (Kd.R_drew HO620.out)
            have n3_ := Aside0.mk (below_drew1 HB.out)
            clear HO_3
            clear HO_5
            clear HO620
            clear HB
            have HO_3 := n0_
            have HO_5 := n1_
            have HO620 := n2_
            have HB := n3_
            clear n0_ n1_ n2_ n3_
            refine start_ (n := 21) (S := fun w' => True) (ds := []) (bq_ 0 21) (by kernel_rfl) rfl rfl trivial (fun hHeld => ?_); refine with_tabW laws_FnRoots.tab11 laws_FnRoots.bits11 (fun HT_ HW_ => ?_)
            generalize w53.drew = w54 at HO_3 HO_5 HO620 HB hHeld ⊢
            refine pu_ 0 (some 65) (bq_ 1 20) HT_ ?_
            refine pu_ 1 (some 66) (bq_ 2 19) HT_ ?_
            refine pu_ 2 (some 67) (bq_ 3 18) HT_ ?_
            refine pu_ 3 (some 68) (bq_ 4 17) HT_ ?_
            refine pu_ 4 (some 69) (bq_ 5 16) HT_ ?_
            refine pu_ 5 (some 70) (bq_ 6 15) HT_ ?_
            refine pu_ 6 (some 71) (bq_ 7 14) HT_ ?_
            refine on_ 7 (some 72) (bq_ 8 13) HT_ (fun K hK => ?_)
            refine goes_ Try.func13 (by kernel_rfl) rfl #[.string t621, .string t622, .int .i64 32] (by rfl) rfl rfl al_ ?_
            with_reducible refine (impl_IsClash.calls kj11 t621 t622 32 t624 _ A35.out).mono ?_
            rintro e w55 ⟨rfl, hb⟩
            refine ⟨_, rfl, ?_⟩
            have n0_ := Aside0.mk (Kd.R_below (kr_ HO_3.out) hb)
            have n1_ := Aside0.mk (Kd.R_below (kr_ HO_5.out) hb)
            have n2_ := Aside0.mk (Kd.R_below (kr_ HO620.out) hb)
            have n3_ := Aside0.mk (below_step (be_ HB.out) hb)
            clear HO_3
            clear HO_5
            clear HO620
            clear HB
            have HO_3 := n0_
            have HO_5 := n1_
            have HO620 := n2_
            have HB := n3_
            clear n0_ n1_ n2_ n3_
            (try clear hb)
            (try clear hb2)
            (try clear hk)
            (try clear hi)
            refine hK.out _ _ trivial (fun hHeld => ?_)
            clear hK K
            refine nm_ ?_
            refine pu_ 8 (some 73) (bq_ 9 12) HT_ ?_
            refine pu_ 9 (some 74) (bq_ 10 11) HT_ ?_
            refine pu_ 10 (some 75) (bq_ 11 10) HT_ ?_
            refine pure_ (i := 11) (N := some 76) (v := undef) (a' := ?_) (bq_ 12 9) rfl rfl (any_of HT_.out (by kernel_rfl)) (fun _ _ _ h => h) (Or.inr ⟨by rfl, rfl⟩) ?_ ?_
            rotate_left
            · simp only [Act.put, sa_, sz_, ss_, i64_w, i32_w]; rfl
            refine pure_ (i := 12) (N := some 77) (v := undef) (a' := ?_) (bq_ 13 8) rfl rfl (any_of HT_.out (by kernel_rfl)) (fun _ _ _ h => h) (Or.inr ⟨by rfl, rfl⟩) ?_ ?_
            rotate_left
            · simp only [Act.put, sa_, sz_, ss_, i64_w, i32_w]; rfl
            refine pure_ (i := 13) (N := some 78) (v := undef) (a' := ?_) (bq_ 14 7) rfl rfl (any_of HT_.out (by kernel_rfl)) (fun _ _ _ h => h) (Or.inr ⟨by rfl, rfl⟩) ?_ ?_
            rotate_left
            · simp only [Act.put, sa_, sz_, ss_, i64_w, i32_w]; rfl
            refine pure_ (i := 14) (N := some 79) (v := undef) (a' := ?_) (bq_ 15 6) rfl rfl (any_of HT_.out (by kernel_rfl)) (fun _ _ _ h => h) (Or.inr ⟨by rfl, rfl⟩) ?_ ?_
            rotate_left
            · simp only [Act.put, sa_, sz_, ss_, i64_w, i32_w]; rfl
            refine pure_ (i := 15) (N := some 80) (v := undef) (a' := ?_) (bq_ 16 5) rfl rfl (any_of HT_.out (by kernel_rfl)) (fun _ _ _ h => h) (Or.inr ⟨by rfl, rfl⟩) ?_ ?_
            rotate_left
            · simp only [Act.put, sa_, sz_, ss_, i64_w, i32_w]; rfl
            refine pure_ (i := 16) (N := some 81) (v := undef) (a' := ?_) (bq_ 17 4) rfl rfl (any_of HT_.out (by kernel_rfl)) (fun _ _ _ h => h) (Or.inr ⟨by rfl, rfl⟩) ?_ ?_
            rotate_left
            · simp only [Act.put, sa_, sz_, ss_, i64_w, i32_w]; rfl
            refine pure_ (i := 17) (N := some 82) (v := undef) (a' := ?_) (bq_ 18 3) rfl rfl (any_of HT_.out (by kernel_rfl)) (fun _ _ _ h => h) (Or.inr ⟨by rfl, rfl⟩) ?_ ?_
            rotate_left
            · simp only [Act.put, sa_, sz_, ss_, i64_w, i32_w]; rfl
            refine pure_ (i := 18) (N := some 83) (v := undef) (a' := ?_) (bq_ 19 2) rfl rfl (any_of HT_.out (by kernel_rfl)) (fun _ _ _ h => h) (Or.inr ⟨by rfl, rfl⟩) ?_ ?_
            rotate_left
            · simp only [Act.put, sa_, sz_, ss_, i64_w, i32_w]; rfl
            refine pu_ 19 (some 84) (bq_ 20 1) HT_ ?_
            refine pu_ 20 (some 2) (bq_ 21 0) HT_ ?_
            refine done_ (done_of HT_.out (by kernel_rfl)) ?_
            try go_wp2
            go_ret
            exact ⟨by first | rfl | (simp [errW_none, errW_some] <;> rfl) | (simp [*, errW_none, errW_some] <;> rfl), be_ HB.out⟩
        · replace c34 := Bool.eq_false_iff.mpr c34
          subst c34
          have H1 : (if ((t614.toList == t615.toList) == false) = true then (if 1 ≤ (t602.length : Int) then ((impl_InnerOf.f kj11 (t602.take 1)).bind fun t636 => (if 0 < (t602.length : Int) then ((impl_LeafOf.f kj11 ((rd_T26 t602 0).f0) ((rd_T26 t602 0).f1)).bind fun t638 => (some (t636.toList == t638.toList))) else (none))) else (none)) else (some false)) = some r := by rw [if_neg (show ¬ (false = true) by decide)] at H; exact H
          clear H
          have H := H1
          clear H1
          by_cases c56 : ((t614.toList == t615.toList) == false) = true
          · rw [if_pos c56] at H
            have c56b0 : ((t614.toList == t615.toList) == false) = true := c56
            (try (have c56b1 : decide ((t614.toList == t615.toList) = false) = true := by simpa using c56))
            (try (have c56b2 : ((t614.toList == t615.toList) == false) = true := by simpa using c56))
            clear c56
            by_cases c57 : 1 ≤ (t602.length : Int)
            rotate_left
            · rw [if_neg c57] at H; exact absurd H (by simp)
            rw [if_pos c57] at H
            have c57b0 := eq_true c57
            have c57b1 : decide (1 ≤ (t602.length : Int)) = true := decide_eq_true c57
            clear c57
            obtain ⟨y632, hy632⟩ : ∃ y_ : List (S26), y_ = (t602.take 1) := ⟨_, rfl⟩
            replace H : ((impl_InnerOf.f kj11 y632).bind fun t636 => (if 0 < (t602.length : Int) then ((impl_LeafOf.f kj11 ((rd_T26 t602 0).f0) ((rd_T26 t602 0).f1)).bind fun t638 => (some (t636.toList == t638.toList))) else (none))) = some r := by first | (rw [hy632]; with_reducible exact H) | (have H2_ := (Option.bind_some _ _).symm.trans H; rw [hy632]; with_reducible exact H2_) | (have H2_ := (Option.bind_some _ _).symm.trans H; with_reducible exact H2_) | with_reducible exact H | (rw [hy632]; exact H) | exact H
            have Ny632 := Aside0.mk hy632
            clear hy632
            replace H := Option.bind_eq_some_iff.mp H
            obtain ⟨t636, A580, H⟩ := H
            have A58 := Aside0.mk A580
            clear A580
            by_cases c59 : 0 < (t602.length : Int)
            rotate_left
            · rw [if_neg c59] at H; exact absurd H (by simp)
            rw [if_pos c59] at H
            have c59b0 : decide (0 < (t602.length : Int)) = true := decide_eq_true c59
            have c59b1 : decide (0 < t602.length) = true := decide_eq_true (by omega)
            clear c59
            replace H := Option.bind_eq_some_iff.mp H
            obtain ⟨t638, A600, H⟩ := H
            have A60 := Aside0.mk A600
            clear A600
            obtain rfl := Option.some.inj H
            try go_wp2
            have n0_ := Aside0.mk (Kd.R_drew HO_3.out)
            have n1_ := Aside0.mk (Kd.R_drew HO_5.out)
            have n2_ := Aside0.mk (below_drew1 HB.out)
            clear HO_3
            clear HO_5
            clear HB
            have HO_3 := n0_
            have HO_5 := n1_
            have HB := n2_
            clear n0_ n1_ n2_
            have p617 : 0 ≤ (t603 : Int) := of_decide_eq_true (by first | (with_reducible assumption) | assumption)
            have q617 : t603 < (y613.length : Int) := of_decide_eq_true (by first | (with_reducible assumption) | assumption)
            obtain ⟨ad617, e617, hx617_0, hx617_1⟩ := at_T26 (Kd.R_reads' HO_5.out).2.2 t603 p617 q617
            obtain rfl : (⟨go9, 0, none⟩ : Addr) = ad617 := (by injection e617)
            (first | simp only [add_plain] at hx617_0 | simp only [add_at] at hx617_0 | simp only [Addr.add, Nat.zero_add] at hx617_0 | skip)
            (first | simp only [add_plain] at hx617_1 | simp only [add_at] at hx617_1 | simp only [Addr.add, Nat.zero_add] at hx617_1 | skip)
            replace p617 := eq_true p617
            replace q617 := eq_true q617
            refine start_ (n := 19) (S := fun w' => w'.cell? ⟨go9, (t603).toNat * 2, none⟩ = some (.string ((rd_T26 y613 t603).f0)) ∧ w'.cell? ⟨go9, (t603).toNat * 2 + 1, none⟩ = some (.string ((rd_T26 y613 t603).f1))) (ds := []) (bq_ 0 19) (by kernel_rfl) rfl rfl ⟨hx617_0, hx617_1⟩ (fun hHeld => ?_); refine with_tabW laws_FnRoots.tab10 laws_FnRoots.bits10 (fun HT_ HW_ => ?_)
            generalize wc.drew = w61 at HO_3 HO_5 HB hx617_0 hx617_1 hHeld ⊢
            refine pu_ 0 (some 50) (bq_ 1 18) HT_ ?_
            refine pu_ 1 (some 51) (bq_ 2 17) HT_ ?_
            refine pu_ 2 (some 52) (bq_ 3 16) HT_ ?_
            refine pu_ 3 (some 53) (bq_ 4 15) HT_ ?_
            refine pu_ 5 (some 55) #[true, true, true, true, false, true, false, false, false, false, false, false, false, false, false, false, false, false, false] HT_ ?_
            refine pu_ 6 (some 56) #[true, true, true, true, false, true, true, false, false, false, false, false, false, false, false, false, false, false, false] HT_ ?_
            refine pu_ 7 (some 57) #[true, true, true, true, false, true, true, true, false, false, false, false, false, false, false, false, false, false, false] HT_ ?_
            refine pu_ 8 (some 58) #[true, true, true, true, false, true, true, true, true, false, false, false, false, false, false, false, false, false, false] HT_ ?_
            refine pu_ 9 (some 59) #[true, true, true, true, false, true, true, true, true, true, false, false, false, false, false, false, false, false, false] HT_ ?_
            refine take_ (i := 4) (N := some 54) (v := ?_) (a' := ?_) (bq_ 10 9) rfl rfl (take_ofW HT_.out HW_.out (by kernel_rfl)) (fun _ _ _ h => h) (Or.inl ⟨by rfl, ?_⟩) hHeld ?_ ?_
            rotate_left
            · rintro w' ⟨s0, s1⟩
              go_simp
              with_reducible rfl
            rotate_left
            · simp only [Act.put, sa_, sz_, ss_, i64_w, i32_w]; rfl
            refine on_ 10 (some 60) (bq_ 11 8) HT_ (fun K hK => ?_)
            refine goes_ Try.func33 (by kernel_rfl) rfl #[.slice (some ⟨go9, 0, none⟩) y613.length co18, .int .i64 t603] (by rfl) rfl rfl al_ ?_
            with_reducible refine (impl_PathOf.calls kj11 _ _ y613 t603 t618 _ ?side1 ?side2 A32.out).mono ?_
            (case side1 => exact kc_ (Kd.R_reads' HO_5.out).2.2)
            (case side2 => exact (Kd.R_reads' HO_5.out).2.1)
            rintro e w62 ⟨v619, rfl, ho0, hb⟩
            have HS0_ := (hb.cell (World.block_lt_of_cell? _ _ (hHeld.1))).trans (hHeld.1)
            have HS1_ := (hb.cell (World.block_lt_of_cell? _ _ (hHeld.2))).trans (hHeld.2)
            refine ⟨_, rfl, ?_⟩
            have n0_ := Aside0.mk (Kd.R_below (kr_ HO_3.out) hb)
            have n1_ := Aside0.mk (Kd.R_below (kr_ HO_5.out) hb)
            have n2_ := Aside0.mk (Kd.R_lower ho0 (below_size (be_ HB.out)))
            have n3_ := Aside0.mk (below_step (be_ HB.out) hb)
            clear HO_3
            clear HO_5
            clear HB
            have HO_3 := n0_
            have HO_5 := n1_
            have HO620 := n2_
            have HB := n3_
            clear n0_ n1_ n2_ n3_
            (try clear hb)
            (try clear hb2)
            (try clear hk)
            (try clear hi)
            (try clear ho0)
            obtain ⟨Ao63, co63, eo63⟩ := Kd.R_slice HO620.out
            (first | subst eo63 | (injection eo63 with f1_ f2_ f3_; have f4_ := f1_.symm; have f5_ := f3_.symm; clear f1_ f2_ f3_; subst f4_; subst f5_))
            refine hK.out _ _ ⟨HS0_, HS1_⟩ (fun hHeld => ?_)
            clear hK K
            refine nm_ ?_
            refine on_ 11 (some 61) (bq_ 12 7) HT_ (fun K hK => ?_)
            refine goes_ Try.func11 (by kernel_rfl) rfl #[.slice Ao17 t602.length co17, .agg #[.string ((rd_T26 y613 t603).f0), .string ((rd_T26 y613 t603).f1)], .int .i64 t603, .int .i64 (y613.length : Int), .slice Ao63 t618.length co63] (by rfl) rfl rfl al_ ?_
            with_reducible refine (impl_PartAt.calls kj11 _ _ t602 ((rd_T26 y613 t603).f0) ((rd_T26 y613 t603).f1) t603 (y613.length : Int) _ _ t618 t621 t622 false _ ?side1 ?side2 ?side3 ?side4 A33.out).mono ?_
            (case side1 => exact kc_ (Kd.R_reads' HO_3.out).2.2)
            (case side2 => exact (Kd.R_reads' HO_3.out).2.1)
            (case side3 => exact kc_ (Kd.R_reads' HO620.out).2.2)
            (case side4 => exact (Kd.R_reads' HO620.out).2.1)
            rintro e w64 ⟨rfl, hb⟩
            have HS0_ := (hb.cell (World.block_lt_of_cell? _ _ (hHeld.1))).trans (hHeld.1)
            have HS1_ := (hb.cell (World.block_lt_of_cell? _ _ (hHeld.2))).trans (hHeld.2)
            refine ⟨_, rfl, ?_⟩
            have n0_ := Aside0.mk (Kd.R_below (kr_ HO_3.out) hb)
            have n1_ := Aside0.mk (Kd.R_below (kr_ HO_5.out) hb)
            have n2_ := Aside0.mk (Kd.R_below (kr_ HO620.out) hb)
            have n3_ := Aside0.mk (below_step (be_ HB.out) hb)
            clear HO_3
            clear HO_5
            clear HO620
            clear HB
            have HO_3 := n0_
            have HO_5 := n1_
            have HO620 := n2_
            have HB := n3_
            clear n0_ n1_ n2_ n3_
            (try clear hb)
            (try clear hb2)
            (try clear hk)
            (try clear hi)
            refine hK.out _ _ ⟨HS0_, HS1_⟩ (fun hHeld => ?_)
            clear hK K
            refine nm_ ?_
            refine pu_ 12 (some 49) (bq_ 13 6) HT_ ?_
            refine pu_ 13 (some 62) (bq_ 14 5) HT_ ?_
            refine pu_ 14 (some 63) (bq_ 15 4) HT_ ?_
            refine pu_ 15 (some 64) (bq_ 16 3) HT_ ?_
            refine pu_ 16 (some 8) (bq_ 17 2) HT_ ?_
            refine pu_ 17 (some 9) (bq_ 18 1) HT_ ?_
            refine pu_ 18 (some 10) (bq_ 19 0) HT_ ?_
            refine done_ (done_of HT_.out (by kernel_rfl)) ?_
            try go_wp2
            have n0_ := Aside0.mk (Kd.R_drew HO_3.out)
            have n1_ := Aside0.mk (Kd.R_drew HO_5.out)
            have n2_ := Aside0.mk (Kd.R_drew HO620.out)
            have n3_ := Aside0.mk (below_drew1 HB.out)
            clear HO_3
            clear HO_5
            clear HO620
            clear HB
            have HO_3 := n0_
            have HO_5 := n1_
            have HO620 := n2_
            have HB := n3_
            clear n0_ n1_ n2_ n3_
            have q66 : (1 : Int) ≤ ((t602.length : Int) : Int) := of_decide_eq_true (by first | (with_reducible assumption) | assumption)
            obtain ⟨i066, hi066, _, hsz66, _⟩ := info_parts info26
            have hroom66 : t602.length ≤ co17 := (Kd.R_reads' HO_3.out).2.1
            have hC66 : Kd.C k26 _ Ao17 t602.length t602 := (Kd.R_reads' HO_3.out).2.2
            have hcut66 := cut_to (P := Try.prog) 24 26 .i64 Try.underlying24 hi066 Ao17 t602.length co17 1 (by omega) q66 hroom66
            have hr66 := Kd.C_take (m := 1) hC66 (by omega)
            have hy66 : y632.length = (1 : Int).toNat := (by rw [Ny632.out, List.length_take]; omega)
            rw [← Ny632.out] at hr66
            rw [← hy66] at hcut66
            have HR635 := Aside0.mk hr66
            have HC635 := Aside0.mk (show y632.length ≤ co17 from by omega)
            clear hr66 hC66 hroom66 hi066 hsz66
            have KY66 := Aside0.mk hy66
            clear hy66
            have KL66 := Aside0.mk (show 1 ≤ t602.length from by omega)
            replace q66 := eq_true q66
            have p637 : 0 ≤ (0 : Int) := (by omega)
            have q637 : 0 < (t602.length : Int) := of_decide_eq_true (by first | (with_reducible assumption) | assumption)
            obtain ⟨ad637, e637, hx637_0, hx637_1⟩ := at_T26 (Kd.R_reads' HO_3.out).2.2 0 p637 q637
            cases e637
            have qi637 : (0 < t602.length) = True := eq_true (by omega)
            (try rw [show ((0 : Int)).toNat = 0 from rfl] at hx637_0)
            (try rw [show 0 * 2 = 0 from rfl] at hx637_0)
            (try rw [Addr.add_zero'] at hx637_0)
            (try rw [show ((0 : Int)).toNat = 0 from rfl] at hx637_1)
            (try rw [show 0 * 2 = 0 from rfl] at hx637_1)
            (try rw [Addr.add_zero'] at hx637_1)
            replace p637 := eq_true p637
            replace q637 := eq_true q637
            refine start_ (n := 21) (S := fun w' => w'.cell? ad637 = some (.string ((rd_T26 t602 0).f0)) ∧ w'.cell? ⟨ad637.block, ad637.off + 1, none⟩ = some (.string ((rd_T26 t602 0).f1))) (ds := []) (bq_ 0 21) (by kernel_rfl) rfl rfl ⟨hx637_0, hx637_1⟩ (fun hHeld => ?_); refine with_tabW laws_FnRoots.tab11 laws_FnRoots.bits11 (fun HT_ HW_ => ?_)
            generalize w64.drew = w65 at HO_3 HO_5 HO620 HB HR635 hx637_0 hx637_1 hHeld ⊢
            refine pu_ 0 (some 65) (bq_ 1 20) HT_ ?_
            refine pu_ 1 (some 66) (bq_ 2 19) HT_ ?_
            refine pu_ 2 (some 67) (bq_ 3 18) HT_ ?_
            refine pu_ 3 (some 68) (bq_ 4 17) HT_ ?_
            refine pu_ 4 (some 69) (bq_ 5 16) HT_ ?_
            refine pure_ (i := 5) (N := some 70) (v := undef) (a' := ?_) (bq_ 6 15) rfl rfl (any_of HT_.out (by kernel_rfl)) (fun _ _ _ h => h) (Or.inr ⟨by rfl, rfl⟩) ?_ ?_
            rotate_left
            · simp only [Act.put, sa_, sz_, ss_, i64_w, i32_w]; rfl
            refine pure_ (i := 6) (N := some 71) (v := undef) (a' := ?_) (bq_ 7 14) rfl rfl (any_of HT_.out (by kernel_rfl)) (fun _ _ _ h => h) (Or.inr ⟨by rfl, rfl⟩) ?_ ?_
            rotate_left
            · simp only [Act.put, sa_, sz_, ss_, i64_w, i32_w]; rfl
            refine pure_ (i := 7) (N := some 72) (v := undef) (a' := ?_) (bq_ 8 13) rfl rfl (any_of HT_.out (by kernel_rfl)) (fun _ _ _ h => h) (Or.inr ⟨by rfl, rfl⟩) ?_ ?_
            rotate_left
            · simp only [Act.put, sa_, sz_, ss_, i64_w, i32_w]; rfl
            refine pu_ 8 (some 73) (bq_ 9 12) HT_ ?_
            refine pu_ 9 (some 74) (bq_ 10 11) HT_ ?_
            refine pu_ 10 (some 75) (bq_ 11 10) HT_ ?_
            refine pu_ 11 (some 76) (bq_ 12 9) HT_ ?_
            refine pu_ 12 (some 77) (bq_ 13 8) HT_ ?_
            refine pu_ 14 (some 79) #[true, true, true, true, true, true, true, true, true, true, true, true, true, false, true, false, false, false, false, false, false] HT_ ?_
            refine pu_ 15 (some 80) #[true, true, true, true, true, true, true, true, true, true, true, true, true, false, true, true, false, false, false, false, false] HT_ ?_
            refine take_ (i := 16) (N := some 81) (v := ?_) (a' := ?_) #[true, true, true, true, true, true, true, true, true, true, true, true, true, false, true, true, true, false, false, false, false] rfl rfl (take_ofW HT_.out HW_.out (by kernel_rfl)) (fun _ _ _ h => h) (Or.inl ⟨by rfl, ?_⟩) hHeld ?_ ?_
            rotate_left
            · rintro w' ⟨s0, s1⟩
              go_simp
              with_reducible rfl
            rotate_left
            · simp only [Act.put, sa_, sz_, ss_, i64_w, i32_w]; rfl
            refine on_ 13 (some 78) (bq_ 17 4) HT_ (fun K hK => ?_)
            refine goes_ Try.func34 (by kernel_rfl) rfl #[.slice (some ad637) y632.length co17] (by rfl) rfl rfl al_ ?_
            with_reducible refine (impl_InnerOf.calls kj11 _ _ y632 t636 _ ?side1 ?side2 A58.out).mono ?_
            (case side1 => repeat (first | exact (by repeat (first | (with_reducible exact HR635.out) | (with_reducible refine Kd.C_alloc ?_ _) | (with_reducible refine Kd.C_drewN ?_ _) | (with_reducible refine Kd.C_drew ?_) | exact HR635.out)) | (with_reducible refine Kd.C_alloc ?_ _) | (with_reducible refine Kd.C_drewN ?_ _) | (with_reducible refine Kd.C_drew ?_)))
            (case side2 => exact HC635.out)
            rintro e w67 ⟨rfl, hb⟩
            have HS0_ := (hb.cell (World.block_lt_of_cell? _ _ (hHeld.1))).trans (hHeld.1)
            have HS1_ := (hb.cell (World.block_lt_of_cell? _ _ (hHeld.2))).trans (hHeld.2)
            refine ⟨_, rfl, ?_⟩
            have n0_ := Aside0.mk (Kd.R_below (kr_ HO_3.out) hb)
            have n1_ := Aside0.mk (Kd.R_below (kr_ HO_5.out) hb)
            have n2_ := Aside0.mk (Kd.R_below (kr_ HO620.out) hb)
            have n3_ := Aside0.mk (Kd.C_below (by repeat (first | (with_reducible exact HR635.out) | (with_reducible refine Kd.C_alloc ?_ _) | (with_reducible refine Kd.C_drewN ?_ _) | (with_reducible refine Kd.C_drew ?_) | exact HR635.out)) hb)
            have n4_ := Aside0.mk (below_step (be_ HB.out) hb)
            clear HO_3
            clear HO_5
            clear HO620
            clear HR635
            clear HB
            have HO_3 := n0_
            have HO_5 := n1_
            have HO620 := n2_
            have HR635 := n3_
            have HB := n4_
            clear n0_ n1_ n2_ n3_ n4_
            (try clear hb)
            (try clear hb2)
            (try clear hk)
            (try clear hi)
            refine hK.out _ _ ⟨HS0_, HS1_⟩ (fun hHeld => ?_)
            clear hK K
            refine nm_ ?_
            refine on_ 17 (some 82) (bq_ 18 3) HT_ (fun K hK => ?_)
            refine goes_ Try.func35 (by kernel_rfl) rfl #[.agg #[.string ((rd_T26 t602 0).f0), .string ((rd_T26 t602 0).f1)]] (by rfl) rfl rfl al_ ?_
            with_reducible refine (impl_LeafOf.calls kj11 ((rd_T26 t602 0).f0) ((rd_T26 t602 0).f1) t638 _ A60.out).mono ?_
            rintro e w68 ⟨rfl, hb⟩
            have HS0_ := (hb.cell (World.block_lt_of_cell? _ _ (hHeld.1))).trans (hHeld.1)
            have HS1_ := (hb.cell (World.block_lt_of_cell? _ _ (hHeld.2))).trans (hHeld.2)
            refine ⟨_, rfl, ?_⟩
            have n0_ := Aside0.mk (Kd.R_below (kr_ HO_3.out) hb)
            have n1_ := Aside0.mk (Kd.R_below (kr_ HO_5.out) hb)
            have n2_ := Aside0.mk (Kd.R_below (kr_ HO620.out) hb)
            have n3_ := Aside0.mk (Kd.C_below (by repeat (first | (with_reducible exact HR635.out) | (with_reducible refine Kd.C_alloc ?_ _) | (with_reducible refine Kd.C_drewN ?_ _) | (with_reducible refine Kd.C_drew ?_) | exact HR635.out)) hb)
            have n4_ := Aside0.mk (below_step (be_ HB.out) hb)
            clear HO_3
            clear HO_5
            clear HO620
            clear HR635
            clear HB
            have HO_3 := n0_
            have HO_5 := n1_
            have HO620 := n2_
            have HR635 := n3_
            have HB := n4_
            clear n0_ n1_ n2_ n3_ n4_
            (try clear hb)
            (try clear hb2)
            (try clear hk)
            (try clear hi)
            refine hK.out _ _ ⟨HS0_, HS1_⟩ (fun hHeld => ?_)
            clear hK K
            refine nm_ ?_
            refine pu_ 18 (some 83) (bq_ 19 2) HT_ ?_
            refine pu_ 19 (some 84) (bq_ 20 1) HT_ ?_
            refine pu_ 20 (some 2) (bq_ 21 0) HT_ ?_
            refine done_ (done_of HT_.out (by kernel_rfl)) ?_
            try go_wp2
            go_ret
            exact ⟨by first | rfl | (simp [errW_none, errW_some] <;> rfl) | (simp [*, errW_none, errW_some] <;> rfl), be_ HB.out⟩
          · rw [if_neg c56] at H
            have c56b0 : ((t614.toList == t615.toList) == false) = false := by simpa using c56
            (try (have c56b1 : decide ((t614.toList == t615.toList) = false) = false := by simpa using c56))
            (try (have c56b2 : ((t614.toList == t615.toList) == false) = false := by simpa using c56))
            (try (have c56b3 : ¬ ((t614.toList == t615.toList) = false) := by simpa using c56))
            clear c56
            obtain rfl := Option.some.inj H
            try go_wp2
            have n0_ := Aside0.mk (Kd.R_drew HO_3.out)
            have n1_ := Aside0.mk (Kd.R_drew HO_5.out)
            have n2_ := Aside0.mk (below_drew1 HB.out)
            clear HO_3
            clear HO_5
            clear HB
            have HO_3 := n0_
            have HO_5 := n1_
            have HB := n2_
            clear n0_ n1_ n2_
            have p617 : 0 ≤ (t603 : Int) := of_decide_eq_true (by first | (with_reducible assumption) | assumption)
            have q617 : t603 < (y613.length : Int) := of_decide_eq_true (by first | (with_reducible assumption) | assumption)
            obtain ⟨ad617, e617, hx617_0, hx617_1⟩ := at_T26 (Kd.R_reads' HO_5.out).2.2 t603 p617 q617
            obtain rfl : (⟨go9, 0, none⟩ : Addr) = ad617 := (by injection e617)
            (first | simp only [add_plain] at hx617_0 | simp only [add_at] at hx617_0 | simp only [Addr.add, Nat.zero_add] at hx617_0 | skip)
            (first | simp only [add_plain] at hx617_1 | simp only [add_at] at hx617_1 | simp only [Addr.add, Nat.zero_add] at hx617_1 | skip)
            replace p617 := eq_true p617
            replace q617 := eq_true q617
            refine start_ (n := 19) (S := fun w' => w'.cell? ⟨go9, (t603).toNat * 2, none⟩ = some (.string ((rd_T26 y613 t603).f0)) ∧ w'.cell? ⟨go9, (t603).toNat * 2 + 1, none⟩ = some (.string ((rd_T26 y613 t603).f1))) (ds := []) (bq_ 0 19) (by kernel_rfl) rfl rfl ⟨hx617_0, hx617_1⟩ (fun hHeld => ?_); refine with_tabW laws_FnRoots.tab10 laws_FnRoots.bits10 (fun HT_ HW_ => ?_)
            generalize wc.drew = w69 at HO_3 HO_5 HB hx617_0 hx617_1 hHeld ⊢
            refine pu_ 0 (some 50) (bq_ 1 18) HT_ ?_
            refine pu_ 1 (some 51) (bq_ 2 17) HT_ ?_
            refine pu_ 2 (some 52) (bq_ 3 16) HT_ ?_
            refine pu_ 3 (some 53) (bq_ 4 15) HT_ ?_
            refine pu_ 5 (some 55) #[true, true, true, true, false, true, false, false, false, false, false, false, false, false, false, false, false, false, false] HT_ ?_
            refine pu_ 6 (some 56) #[true, true, true, true, false, true, true, false, false, false, false, false, false, false, false, false, false, false, false] HT_ ?_
            refine pu_ 7 (some 57) #[true, true, true, true, false, true, true, true, false, false, false, false, false, false, false, false, false, false, false] HT_ ?_
            refine pu_ 8 (some 58) #[true, true, true, true, false, true, true, true, true, false, false, false, false, false, false, false, false, false, false] HT_ ?_
            refine pu_ 9 (some 59) #[true, true, true, true, false, true, true, true, true, true, false, false, false, false, false, false, false, false, false] HT_ ?_
            refine take_ (i := 4) (N := some 54) (v := ?_) (a' := ?_) (bq_ 10 9) rfl rfl (take_ofW HT_.out HW_.out (by kernel_rfl)) (fun _ _ _ h => h) (Or.inl ⟨by rfl, ?_⟩) hHeld ?_ ?_
            rotate_left
            · rintro w' ⟨s0, s1⟩
              go_simp
              with_reducible rfl
            rotate_left
            · simp only [Act.put, sa_, sz_, ss_, i64_w, i32_w]; rfl
            refine on_ 10 (some 60) (bq_ 11 8) HT_ (fun K hK => ?_)
            refine goes_ Try.func33 (by kernel_rfl) rfl #[.slice (some ⟨go9, 0, none⟩) y613.length co18, .int .i64 t603] (by rfl) rfl rfl al_ ?_
            with_reducible refine (impl_PathOf.calls kj11 _ _ y613 t603 t618 _ ?side1 ?side2 A32.out).mono ?_
            (case side1 => exact kc_ (Kd.R_reads' HO_5.out).2.2)
            (case side2 => exact (Kd.R_reads' HO_5.out).2.1)
            rintro e w70 ⟨v619, rfl, ho0, hb⟩
            have HS0_ := (hb.cell (World.block_lt_of_cell? _ _ (hHeld.1))).trans (hHeld.1)
            have HS1_ := (hb.cell (World.block_lt_of_cell? _ _ (hHeld.2))).trans (hHeld.2)
            refine ⟨_, rfl, ?_⟩
            have n0_ := Aside0.mk (Kd.R_below (kr_ HO_3.out) hb)
            have n1_ := Aside0.mk (Kd.R_below (kr_ HO_5.out) hb)
            have n2_ := Aside0.mk (Kd.R_lower ho0 (below_size (be_ HB.out)))
            have n3_ := Aside0.mk (below_step (be_ HB.out) hb)
            clear HO_3
            clear HO_5
            clear HB
            have HO_3 := n0_
            have HO_5 := n1_
            have HO620 := n2_
            have HB := n3_
            clear n0_ n1_ n2_ n3_
            (try clear hb)
            (try clear hb2)
            (try clear hk)
            (try clear hi)
            (try clear ho0)
            obtain ⟨Ao71, co71, eo71⟩ := Kd.R_slice HO620.out
            (first | subst eo71 | (injection eo71 with f1_ f2_ f3_; have f4_ := f1_.symm; have f5_ := f3_.symm; clear f1_ f2_ f3_; subst f4_; subst f5_))
            refine hK.out _ _ ⟨HS0_, HS1_⟩ (fun hHeld => ?_)
            clear hK K
            refine nm_ ?_
            refine on_ 11 (some 61) (bq_ 12 7) HT_ (fun K hK => ?_)
            refine goes_ Try.func11 (by kernel_rfl) rfl #[.slice Ao17 t602.length co17, .agg #[.string ((rd_T26 y613 t603).f0), .string ((rd_T26 y613 t603).f1)], .int .i64 t603, .int .i64 (y613.length : Int), .slice Ao71 t618.length co71] (by rfl) rfl rfl al_ ?_
            with_reducible refine (impl_PartAt.calls kj11 _ _ t602 ((rd_T26 y613 t603).f0) ((rd_T26 y613 t603).f1) t603 (y613.length : Int) _ _ t618 t621 t622 false _ ?side1 ?side2 ?side3 ?side4 A33.out).mono ?_
            (case side1 => exact kc_ (Kd.R_reads' HO_3.out).2.2)
            (case side2 => exact (Kd.R_reads' HO_3.out).2.1)
            (case side3 => exact kc_ (Kd.R_reads' HO620.out).2.2)
            (case side4 => exact (Kd.R_reads' HO620.out).2.1)
            rintro e w72 ⟨rfl, hb⟩
            have HS0_ := (hb.cell (World.block_lt_of_cell? _ _ (hHeld.1))).trans (hHeld.1)
            have HS1_ := (hb.cell (World.block_lt_of_cell? _ _ (hHeld.2))).trans (hHeld.2)
            refine ⟨_, rfl, ?_⟩
            have n0_ := Aside0.mk (Kd.R_below (kr_ HO_3.out) hb)
            have n1_ := Aside0.mk (Kd.R_below (kr_ HO_5.out) hb)
            have n2_ := Aside0.mk (Kd.R_below (kr_ HO620.out) hb)
            have n3_ := Aside0.mk (below_step (be_ HB.out) hb)
            clear HO_3
            clear HO_5
            clear HO620
            clear HB
            have HO_3 := n0_
            have HO_5 := n1_
            have HO620 := n2_
            have HB := n3_
            clear n0_ n1_ n2_ n3_
            (try clear hb)
            (try clear hb2)
            (try clear hk)
            (try clear hi)
            refine hK.out _ _ ⟨HS0_, HS1_⟩ (fun hHeld => ?_)
            clear hK K
            refine nm_ ?_
            refine pu_ 12 (some 49) (bq_ 13 6) HT_ ?_
            refine pu_ 13 (some 62) (bq_ 14 5) HT_ ?_
            refine pu_ 14 (some 63) (bq_ 15 4) HT_ ?_
            refine pu_ 15 (some 64) (bq_ 16 3) HT_ ?_
            refine pu_ 16 (some 8) (bq_ 17 2) HT_ ?_
            refine pu_ 17 (some 9) (bq_ 18 1) HT_ ?_
            refine pu_ 18 (some 10) (bq_ 19 0) HT_ ?_
            refine done_ (done_of HT_.out (by kernel_rfl)) ?_
            try go_wp2
            have n0_ := Aside0.mk (Kd.R_drew HO_3.out)
            have n1_ := Aside0.mk (Kd.R_drew HO_5.out)
            have n2_ := Aside0.mk (Kd.R_drew HO620.out)
            have n3_ := Aside0.mk (below_drew1 HB.out)
            clear HO_3
            clear HO_5
            clear HO620
            clear HB
            have HO_3 := n0_
            have HO_5 := n1_
            have HO620 := n2_
            have HB := n3_
            clear n0_ n1_ n2_ n3_
            refine start_ (n := 21) (S := fun w' => True) (ds := []) (bq_ 0 21) (by kernel_rfl) rfl rfl trivial (fun hHeld => ?_); refine with_tabW laws_FnRoots.tab11 laws_FnRoots.bits11 (fun HT_ HW_ => ?_)
            generalize w72.drew = w73 at HO_3 HO_5 HO620 HB hHeld ⊢
            refine pu_ 0 (some 65) (bq_ 1 20) HT_ ?_
            refine pu_ 1 (some 66) (bq_ 2 19) HT_ ?_
            refine pu_ 2 (some 67) (bq_ 3 18) HT_ ?_
            refine pu_ 3 (some 68) (bq_ 4 17) HT_ ?_
            refine pu_ 4 (some 69) (bq_ 5 16) HT_ ?_
            refine pure_ (i := 5) (N := some 70) (v := undef) (a' := ?_) (bq_ 6 15) rfl rfl (any_of HT_.out (by kernel_rfl)) (fun _ _ _ h => h) (Or.inr ⟨by rfl, rfl⟩) ?_ ?_
            rotate_left
            · simp only [Act.put, sa_, sz_, ss_, i64_w, i32_w]; rfl
            refine pure_ (i := 6) (N := some 71) (v := undef) (a' := ?_) (bq_ 7 14) rfl rfl (any_of HT_.out (by kernel_rfl)) (fun _ _ _ h => h) (Or.inr ⟨by rfl, rfl⟩) ?_ ?_
            rotate_left
            · simp only [Act.put, sa_, sz_, ss_, i64_w, i32_w]; rfl
            refine pure_ (i := 7) (N := some 72) (v := undef) (a' := ?_) (bq_ 8 13) rfl rfl (any_of HT_.out (by kernel_rfl)) (fun _ _ _ h => h) (Or.inr ⟨by rfl, rfl⟩) ?_ ?_
            rotate_left
            · simp only [Act.put, sa_, sz_, ss_, i64_w, i32_w]; rfl
            refine pu_ 8 (some 73) (bq_ 9 12) HT_ ?_
            refine pu_ 9 (some 74) (bq_ 10 11) HT_ ?_
            refine pu_ 10 (some 75) (bq_ 11 10) HT_ ?_
            refine pure_ (i := 11) (N := some 76) (v := undef) (a' := ?_) (bq_ 12 9) rfl rfl (any_of HT_.out (by kernel_rfl)) (fun _ _ _ h => h) (Or.inr ⟨by rfl, rfl⟩) ?_ ?_
            rotate_left
            · simp only [Act.put, sa_, sz_, ss_, i64_w, i32_w]; rfl
            refine pure_ (i := 12) (N := some 77) (v := undef) (a' := ?_) (bq_ 13 8) rfl rfl (any_of HT_.out (by kernel_rfl)) (fun _ _ _ h => h) (Or.inr ⟨by rfl, rfl⟩) ?_ ?_
            rotate_left
            · simp only [Act.put, sa_, sz_, ss_, i64_w, i32_w]; rfl
            refine pure_ (i := 13) (N := some 78) (v := undef) (a' := ?_) (bq_ 14 7) rfl rfl (any_of HT_.out (by kernel_rfl)) (fun _ _ _ h => h) (Or.inr ⟨by rfl, rfl⟩) ?_ ?_
            rotate_left
            · simp only [Act.put, sa_, sz_, ss_, i64_w, i32_w]; rfl
            refine pure_ (i := 14) (N := some 79) (v := undef) (a' := ?_) (bq_ 15 6) rfl rfl (any_of HT_.out (by kernel_rfl)) (fun _ _ _ h => h) (Or.inr ⟨by rfl, rfl⟩) ?_ ?_
            rotate_left
            · simp only [Act.put, sa_, sz_, ss_, i64_w, i32_w]; rfl
            refine pure_ (i := 15) (N := some 80) (v := undef) (a' := ?_) (bq_ 16 5) rfl rfl (any_of HT_.out (by kernel_rfl)) (fun _ _ _ h => h) (Or.inr ⟨by rfl, rfl⟩) ?_ ?_
            rotate_left
            · simp only [Act.put, sa_, sz_, ss_, i64_w, i32_w]; rfl
            refine pure_ (i := 16) (N := some 81) (v := undef) (a' := ?_) (bq_ 17 4) rfl rfl (any_of HT_.out (by kernel_rfl)) (fun _ _ _ h => h) (Or.inr ⟨by rfl, rfl⟩) ?_ ?_
            rotate_left
            · simp only [Act.put, sa_, sz_, ss_, i64_w, i32_w]; rfl
            refine pure_ (i := 17) (N := some 82) (v := undef) (a' := ?_) (bq_ 18 3) rfl rfl (any_of HT_.out (by kernel_rfl)) (fun _ _ _ h => h) (Or.inr ⟨by rfl, rfl⟩) ?_ ?_
            rotate_left
            · simp only [Act.put, sa_, sz_, ss_, i64_w, i32_w]; rfl
            refine pure_ (i := 18) (N := some 83) (v := undef) (a' := ?_) (bq_ 19 2) rfl rfl (any_of HT_.out (by kernel_rfl)) (fun _ _ _ h => h) (Or.inr ⟨by rfl, rfl⟩) ?_ ?_
            rotate_left
            · simp only [Act.put, sa_, sz_, ss_, i64_w, i32_w]; rfl
            refine pu_ 19 (some 84) (bq_ 20 1) HT_ ?_
            refine pu_ 20 (some 2) (bq_ 21 0) HT_ ?_
            refine done_ (done_of HT_.out (by kernel_rfl)) ?_
            try go_wp2
            go_ret
            exact ⟨by first | rfl | (simp [errW_none, errW_some] <;> rfl) | (simp [*, errW_none, errW_some] <;> rfl), be_ HB.out⟩

end Go.Proofs.Ytgaalomhipfgjaa.P
