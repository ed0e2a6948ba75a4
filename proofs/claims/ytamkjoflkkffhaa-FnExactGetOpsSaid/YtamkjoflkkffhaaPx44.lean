-- Written by wip/xp/xp.py over the kit's print; Lean checks it.
import Derived.Test.YtamkjoflkkffhaaPx0
import Derived.Test.YtamkjoflkkffhaaPx13
import Derived.Test.YtamkjoflkkffhaaPx39
import Derived.Test.YtamkjoflkkffhaaPx41
import Derived.Test.YtamkjoflkkffhaaPx42
import Derived.Test.YtamkjoflkkffhaaPx43
namespace Go.Proofs.Ytamkjoflkkffhaa.P
open Go.RowKit Go.Proofs.YtamkjoflkkffhaaW.PrintWords Go.Proofs.YtamkjoflkkffhaaW.PrintLast Go.Proofs.YtamkjoflkkffhaaW.PrintMore
attribute [local go_sem] max2_int min2_int max_two min_two max_three min_three max_four min_four   -- for this text's walks alone
set_option linter.unusedVariables false
set_option linter.unusedSimpArgs false

/-! ###  laws_FnExactGetOps: function 8 -/
mutual
def laws_FnExactGetOps.j0 : Nat → List Int → List (S84) → Bool → List Int → List (S84) → Bool → Bool → Option (Bool)
  | 0, _, _, _, _, _, _, _ => none
  | k + 1, x0, x3, x4, x5, x6, x7, x37 => if x37 = true then (some false) else ((laws_toByteS.f k x0).bind fun t720 => ((laws_eqByteS.f k x5 t720).bind fun t723 => (if t723 = true then ((laws_markByteS.f k x5 1).bind fun bt724 => (if bt724.1 < 0 then (laws_FnExactGetOps.j1 k x0 x3 x4 x6 true) else ((laws_eqOpS.f k x6 x3).bind fun t726 => (if t726 = true then (laws_FnExactGetOps.j1 k x0 x3 x4 x6 (x7 != x4)) else (laws_FnExactGetOps.j1 k x0 x3 x4 x6 true))))) else (some false))))
def laws_FnExactGetOps.j1 : Nat → List Int → List (S84) → Bool → List (S84) → Bool → Option (Bool)
  | 0, _, _, _, _, _ => none
  | k + 1, x0, x3, x4, x6, x58 => if x58 = true then (some false) else ((laws_markOpS.f k x6 1).bind fun bt727 => ((laws_heldOpS.f k bt727.2 1).bind fun t729 => (if t729 < 0 then (some false) else (if t729 = bt727.1 then ((laws_toByteS.f k x0).bind fun t730 => ((impl_GetOps.f k t730).bind fun bt733 => ((laws_eqOpS.f k bt733.1 x3).bind fun t737 => (if t737 = true then (laws_FnExactGetOps.j2 k bt727.2 bt727.1 (bt733.2 != x4)) else (laws_FnExactGetOps.j2 k bt727.2 bt727.1 true))))) else (some false)))))
def laws_FnExactGetOps.j2 : Nat → List (S84) → Int → Bool → Option (Bool)
  | 0, _, _, _ => none
  | k + 1, x6, x9, x84 => if x84 = true then (some false) else ((laws_heldOpS.f k x6 1).bind fun t738 => (if t738 < 0 then (some false) else (if t738 = x9 then (some true) else (some false))))
end
def laws_FnExactGetOps.f (k : Nat) (l0 : List Int) : Option (Bool) := if (l0.length : Int) > 1048576 then (some true) else ((laws_toByteS.f k l0).bind fun t705 => ((spec_GetOps.f k t705).bind fun bt708 => ((laws_toByteS.f k l0).bind fun t712 => ((impl_GetOps.f k t712).bind fun bt715 => ((laws_eqOpS.f k bt715.1 bt708.1).bind fun t719 => (if t719 = true then (laws_FnExactGetOps.j0 k l0 bt708.1 bt708.2 t712 bt715.1 bt715.2 (bt715.2 != bt708.2)) else (laws_FnExactGetOps.j0 k l0 bt708.1 bt708.2 t712 bt715.1 bt715.2 true)))))))
set_option maxHeartbeats 8000000 in
set_option maxRecDepth 100000 in
theorem laws_FnExactGetOps.calls (k : Nat) (A0 : Option Addr) (c0 : Nat) (l0 : List Int) (r : Bool) (w : World) (hr0 : Kd.C (Kd.int .u8) w A0 l0.length l0) (hc0 : l0.length ≤ c0) (h : laws_FnExactGetOps.f k l0 = some r) :
  Calls Try.prog 8 #[.slice A0 l0.length c0] w fun e w' => e = .returned (.bool r) ∧ Below w.heap.size w w' := by
  have HR0 := Aside0.mk hr0
  have HC0 := Aside0.mk hc0
  clear hr0 hc0
  have HB := Aside0.mk (Below.refl w.heap.size w)
  have H : (if (l0.length : Int) > 1048576 then (some true) else ((laws_toByteS.f k l0).bind fun t705 => ((spec_GetOps.f k t705).bind fun bt708 => ((laws_toByteS.f k l0).bind fun t712 => ((impl_GetOps.f k t712).bind fun bt715 => ((laws_eqOpS.f k bt715.1 bt708.1).bind fun t719 => (if t719 = true then (laws_FnExactGetOps.j0 k l0 bt708.1 bt708.2 t712 bt715.1 bt715.2 (bt715.2 != bt708.2)) else (laws_FnExactGetOps.j0 k l0 bt708.1 bt708.2 t712 bt715.1 bt715.2 true)))))))) = some r := h
  clear h
  by_cases c2 : (l0.length : Int) > 1048576
  · rw [if_pos c2] at H
    have c2b0 : decide (1048576 < (l0.length : Int)) = true := decide_eq_true c2
    have c2b1 : decide (1048576 < l0.length) = true := decide_eq_true (by omega)
    clear c2
    obtain rfl := Option.some.inj H
    go_enter Try.func8, Try.ntmps8
    go_wp2
    go_ret
    exact ⟨by first | rfl | (simp [errW_none, errW_some] <;> rfl) | (simp [*, errW_none, errW_some] <;> rfl), be_ HB.out⟩
  · rw [if_neg c2] at H
    have c2b0 : decide (1048576 < (l0.length : Int)) = false := decide_eq_false c2
    have c2b1 : decide (1048576 < l0.length) = false := decide_eq_false (by omega)
    clear c2
    replace H := Option.bind_eq_some_iff.mp H
    obtain ⟨t705, A30, H⟩ := H
    have A3 := Aside0.mk A30
    clear A30
    replace H := Option.bind_eq_some_iff.mp H
    obtain ⟨⟨t708, t709⟩, A40, H⟩ := H; try dsimp only at H
    have A4 := Aside0.mk A40
    clear A40
    replace H := Option.bind_eq_some_iff.mp H
    obtain ⟨t712, A50, H⟩ := H
    have A5 := Aside0.mk A50
    clear A50
    replace H := Option.bind_eq_some_iff.mp H
    obtain ⟨⟨t715, t716⟩, A60, H⟩ := H; try dsimp only at H
    have A6 := Aside0.mk A60
    clear A60
    have HC7 := Aside0.mk H
    clear H
    go_enter Try.func8, Try.ntmps8
    go_upto_region 6 with (first | ((with_reducible refine gate_callee (f := 34) rfl ?_); refine goesL_ (some 18) rfl rfl Try.func34 (by kernel_rfl) rfl #[.slice A0 l0.length c0] rfl al_ ?_; (with_reducible refine (laws_toByteS.calls k _ _ l0 t705 _ ?side1 ?side2 A3.out).mono ?_); (case side1 => exact kc_ HR0.out); (case side2 => exact HC0.out); rintro e w8 ⟨v706, rfl, ho0, hb⟩; refine ⟨_, rfl, ?_⟩; have n0_ := Aside0.mk (Kd.R_lower ho0 (below_size (be_ HB.out))); have n1_ := Aside0.mk (below_step (be_ HB.out) hb); clear HB; have HO707 := n0_; have HB := n1_; clear n0_ n1_; (try clear hb); (try clear hb2); (try clear hk); (try clear hi); (try clear ho0); obtain ⟨Ao9, co9, eo9⟩ := Kd.R_slice HO707.out; subst eo9) | ((with_reducible refine gate_callee (f := 33) rfl ?_); refine goesL_ (some 19) rfl rfl Try.func33 (by kernel_rfl) rfl #[.slice Ao9 t705.length co9] rfl al_ ?_; (with_reducible refine (spec_GetOps.calls k _ _ t705 t708 t709 _ ?side1 ?side2 A4.out).mono ?_); (case side1 => exact kc_ (Kd.R_reads' HO707.out).2.2); (case side2 => exact (Kd.R_reads' HO707.out).2.1); rintro e w10 ⟨v710, rfl, ho0, hb⟩; refine ⟨_, rfl, ?_⟩; have n0_ := Aside0.mk (Kd.R_below (kr_ HO707.out) hb); have n1_ := Aside0.mk (Kd.R_lower ho0 (below_size (be_ HB.out))); have n2_ := Aside0.mk (below_step (be_ HB.out) hb); clear HO707; clear HB; have HO707 := n0_; have HO711 := n1_; have HB := n2_; clear n0_ n1_ n2_; (try clear hb); (try clear hb2); (try clear hk); (try clear hi); (try clear ho0)) | ((with_reducible refine gate_callee (f := 34) rfl ?_); refine goesL_ (some 23) rfl rfl Try.func34 (by kernel_rfl) rfl #[.slice A0 l0.length c0] rfl al_ ?_; (with_reducible refine (laws_toByteS.calls k _ _ l0 t712 _ ?side1 ?side2 A5.out).mono ?_); (case side1 => exact kc_ (Kd.C_below HR0.out HB.out)); (case side2 => exact HC0.out); rintro e w11 ⟨v713, rfl, ho0, hb⟩; refine ⟨_, rfl, ?_⟩; have n0_ := Aside0.mk (Kd.R_elder' (kr_ HO707.out) (Kd.R_base ho0) hb); have n1_ := Aside0.mk (Kd.R_below (kr_ HO711.out) hb); have n2_ := Aside0.mk (Kd.R_lower (Kd.R_new' ho0 (Kd.R_lt (kr_ HO707.out))) (below_size (be_ HB.out))); have n3_ := Aside0.mk (below_step (be_ HB.out) hb); clear HO707; clear HO711; clear HB; have HO707 := n0_; have HO711 := n1_; have HO714 := n2_; have HB := n3_; clear n0_ n1_ n2_ n3_; (try clear hb); (try clear hb2); (try clear hk); (try clear hi); (try clear ho0); obtain ⟨Ao12, co12, eo12⟩ := Kd.R_slice HO714.out; subst eo12) | ((with_reducible refine gate_callee (f := 35) rfl ?_); refine goesL_ (some 26) rfl rfl Try.func35 (by kernel_rfl) rfl #[.slice Ao12 t712.length co12] rfl al_ ?_; (with_reducible refine (impl_GetOps.calls k _ _ t712 t715 t716 _ ?side1 ?side2 A6.out).mono ?_); (case side1 => exact kc_ (Kd.R_reads' HO714.out).2.2); (case side2 => exact (Kd.R_reads' HO714.out).2.1); rintro e w13 ⟨v717, rfl, ho0, hb⟩; refine ⟨_, rfl, ?_⟩; have n0_ := Aside0.mk (Kd.R_below (kr_ HO707.out) hb); have n1_ := Aside0.mk (Kd.R_elder' (kr_ HO711.out) (Kd.R_base ho0) hb); have n2_ := Aside0.mk (Kd.R_below (kr_ HO714.out) hb); have n3_ := Aside0.mk (Kd.R_lower (Kd.R_new' ho0 (Kd.R_lt (kr_ HO711.out))) (below_size (be_ HB.out))); have n4_ := Aside0.mk (below_step (be_ HB.out) hb); clear HO707; clear HO711; clear HO714; clear HB; have HO707 := n0_; have HO711 := n1_; have HO714 := n2_; have HO718 := n3_; have HB := n4_; clear n0_ n1_ n2_ n3_ n4_; (try clear hb); (try clear hb2); (try clear hk); (try clear hi); (try clear ho0)))
    (try simp only [Act.put, sa_, sz_, ss_])
    go_cut [37] (fun v37 wc => ∃ (kq : Nat) (x37_6 : Bool), v37 = .bool x37_6 ∧ Aside0 (laws_FnExactGetOps.j0 kq l0 t708 t709 t712 t715 t716 x37_6 = some r) ∧ Aside0 (kq ≤ k) ∧ Aside0 (Kd.R k84 84 wc w.heap.size (fun k_ => some k_ ≠ (v717 : Value).ownBlock) v710 t708) ∧ Aside0 (Kd.R (Kd.int .u8) 5 wc w.heap.size (fun _ => True) (.slice Ao12 t712.length co12) t712) ∧ Aside0 (Kd.R k84 84 wc w.heap.size (fun k_ => some k_ ≠ (v710 : Value).ownBlock) v717 t715) ∧ Aside0 (Below w.heap.size w wc))
    case first =>
     have H := HC7.out
     clear HC7
     replace H := Option.bind_eq_some_iff.mp H
     obtain ⟨t719, A140, H⟩ := H
     have A14 := Aside0.mk A140
     clear A140
     by_cases c15 : t719 = true
     · subst c15
       have H1 : (laws_FnExactGetOps.j0 k l0 t708 t709 t712 t715 t716 (t716 != t709)) = some r := by rw [if_pos rfl] at H; exact H
       clear H
       have H := H1
       clear H1
       have H' := Aside0.mk H
       clear H
       obtain ⟨Ao16, co16, eo16⟩ := Kd.R_slice HO718.out
       subst eo16
       obtain ⟨Ao17, co17, eo17⟩ := Kd.R_slice HO711.out
       subst eo17
       go_wp2_with (first | ((with_reducible refine gate_callee (f := 36) rfl ?_); refine goesL_ (some 31) rfl rfl Try.func36 (by kernel_rfl) rfl #[.slice Ao16 t715.length co16, .slice Ao17 t708.length co17] rfl al_ ?_; (with_reducible refine (laws_eqOpS.calls k _ _ t715 _ _ t708 true _ ?side1 ?side2 ?side3 ?side4 A14.out).mono ?_); (case side1 => exact kc_ (Kd.R_reads' HO718.out).2.2); (case side2 => exact (Kd.R_reads' HO718.out).2.1); (case side3 => exact kc_ (Kd.R_reads' HO711.out).2.2); (case side4 => exact (Kd.R_reads' HO711.out).2.1); rintro e w18 ⟨rfl, hb⟩; refine ⟨_, rfl, ?_⟩; have n0_ := Aside0.mk (Kd.R_below (kr_ HO707.out) hb); have n1_ := Aside0.mk (Kd.R_below (kr_ HO711.out) hb); have n2_ := Aside0.mk (Kd.R_below (kr_ HO714.out) hb); have n3_ := Aside0.mk (Kd.R_below (kr_ HO718.out) hb); have n4_ := Aside0.mk (below_step (be_ HB.out) hb); clear HO707; clear HO711; clear HO714; clear HO718; clear HB; have HO707 := n0_; have HO711 := n1_; have HO714 := n2_; have HO718 := n3_; have HB := n4_; clear n0_ n1_ n2_ n3_ n4_; (try clear hb); (try clear hb2); (try clear hk); (try clear hi)))
       go_meet
       case rel => exact ⟨_, ((t716 != t709)), (by first | rfl | (simp; done) | (simp [*]; done)), H', ⟨by first | omega | exact Nat.le_refl _⟩, ⟨by (with_reducible repeat (first | apply Kd.R_alloc | apply Kd.R_drewN | apply Kd.R_drew)); exact Kd.R_mono HO711.out (fun _ hk => hk.2)⟩, ⟨by (with_reducible repeat (first | apply Kd.R_alloc | apply Kd.R_drewN | apply Kd.R_drew)); exact Kd.R_mono HO714.out (fun _ hk => trivial)⟩, ⟨by (with_reducible repeat (first | apply Kd.R_alloc | apply Kd.R_drewN | apply Kd.R_drew)); exact Kd.R_mono HO718.out (fun _ hk => hk.2)⟩, ⟨be_ HB.out⟩⟩
     · replace c15 := Bool.eq_false_iff.mpr c15
       subst c15
       have H1 : (laws_FnExactGetOps.j0 k l0 t708 t709 t712 t715 t716 true) = some r := by rw [if_neg (show ¬ (false = true) by decide)] at H; exact H
       clear H
       have H := H1
       clear H1
       have H' := Aside0.mk H
       clear H
       obtain ⟨Ao19, co19, eo19⟩ := Kd.R_slice HO718.out
       subst eo19
       obtain ⟨Ao20, co20, eo20⟩ := Kd.R_slice HO711.out
       subst eo20
       go_wp2_with (first | ((with_reducible refine gate_callee (f := 36) rfl ?_); refine goesL_ (some 31) rfl rfl Try.func36 (by kernel_rfl) rfl #[.slice Ao19 t715.length co19, .slice Ao20 t708.length co20] rfl al_ ?_; (with_reducible refine (laws_eqOpS.calls k _ _ t715 _ _ t708 false _ ?side1 ?side2 ?side3 ?side4 A14.out).mono ?_); (case side1 => exact kc_ (Kd.R_reads' HO718.out).2.2); (case side2 => exact (Kd.R_reads' HO718.out).2.1); (case side3 => exact kc_ (Kd.R_reads' HO711.out).2.2); (case side4 => exact (Kd.R_reads' HO711.out).2.1); rintro e w21 ⟨rfl, hb⟩; refine ⟨_, rfl, ?_⟩; have n0_ := Aside0.mk (Kd.R_below (kr_ HO707.out) hb); have n1_ := Aside0.mk (Kd.R_below (kr_ HO711.out) hb); have n2_ := Aside0.mk (Kd.R_below (kr_ HO714.out) hb); have n3_ := Aside0.mk (Kd.R_below (kr_ HO718.out) hb); have n4_ := Aside0.mk (below_step (be_ HB.out) hb); clear HO707; clear HO711; clear HO714; clear HO718; clear HB; have HO707 := n0_; have HO711 := n1_; have HO714 := n2_; have HO718 := n3_; have HB := n4_; clear n0_ n1_ n2_ n3_ n4_; (try clear hb); (try clear hb2); (try clear hk); (try clear hi)))
       go_meet
       case rel => exact ⟨_, (true), (by first | rfl | (simp; done) | (simp [*]; done)), H', ⟨by first | omega | exact Nat.le_refl _⟩, ⟨by (with_reducible repeat (first | apply Kd.R_alloc | apply Kd.R_drewN | apply Kd.R_drew)); exact Kd.R_mono HO711.out (fun _ hk => hk.2)⟩, ⟨by (with_reducible repeat (first | apply Kd.R_alloc | apply Kd.R_drewN | apply Kd.R_drew)); exact Kd.R_mono HO714.out (fun _ hk => trivial)⟩, ⟨by (with_reducible repeat (first | apply Kd.R_alloc | apply Kd.R_drewN | apply Kd.R_drew)); exact Kd.R_mono HO718.out (fun _ hk => hk.2)⟩, ⟨be_ HB.out⟩⟩
    case rest =>
     clear HC7
     try clear c1
     try clear c2
     try clear c2b0
     try clear c2b1
     try clear p2
     try clear c3
     try clear c8
     try clear c15
     obtain ⟨kq, x37_6, rfl, HA, HJ6, HO_3, HO_5, HO_6, HB⟩ := hcut
     cases kq with
     | zero => exact absurd HA.out (by simp [laws_FnExactGetOps.j0])
     | succ kj6 =>
      have H := HA.out
      clear HA
      simp only [laws_FnExactGetOps.j0] at H
      by_cases c22 : x37_6 = true
      · subst c22
        have H1 : (some false) = some r := by rw [if_pos rfl] at H; exact H
        clear H
        have H := H1
        clear H1
        obtain rfl := Option.some.inj H
        go_wp2
        go_ret
        exact ⟨by first | rfl | (simp [errW_none, errW_some] <;> rfl) | (simp [*, errW_none, errW_some] <;> rfl), be_ HB.out⟩
      · replace c22 := Bool.eq_false_iff.mpr c22
        subst c22
        have H1 : ((laws_toByteS.f kj6 l0).bind fun t720 => ((laws_eqByteS.f kj6 t712 t720).bind fun t723 => (if t723 = true then ((laws_markByteS.f kj6 t712 1).bind fun bt724 => (if bt724.1 < 0 then (laws_FnExactGetOps.j1 kj6 l0 t708 t709 t715 true) else ((laws_eqOpS.f kj6 t715 t708).bind fun t726 => (if t726 = true then (laws_FnExactGetOps.j1 kj6 l0 t708 t709 t715 (t716 != t709)) else (laws_FnExactGetOps.j1 kj6 l0 t708 t709 t715 true))))) else (some false)))) = some r := by rw [if_neg (show ¬ (false = true) by decide)] at H; exact H
        clear H
        have H := H1
        clear H1
        replace H := Option.bind_eq_some_iff.mp H
        obtain ⟨t720, A230, H⟩ := H
        have A23 := Aside0.mk A230
        clear A230
        replace H := Option.bind_eq_some_iff.mp H
        obtain ⟨t723, A240, H⟩ := H
        have A24 := Aside0.mk A240
        clear A240
        by_cases c25 : t723 = true
        · subst c25
          have H1 : ((laws_markByteS.f kj6 t712 1).bind fun bt724 => (if bt724.1 < 0 then (laws_FnExactGetOps.j1 kj6 l0 t708 t709 t715 true) else ((laws_eqOpS.f kj6 t715 t708).bind fun t726 => (if t726 = true then (laws_FnExactGetOps.j1 kj6 l0 t708 t709 t715 (t716 != t709)) else (laws_FnExactGetOps.j1 kj6 l0 t708 t709 t715 true))))) = some r := by rw [if_pos rfl] at H; exact H
          clear H
          have H := H1
          clear H1
          replace H := Option.bind_eq_some_iff.mp H
          obtain ⟨⟨t724, t725⟩, A260, H⟩ := H; try dsimp only at H
          have A26 := Aside0.mk A260
          clear A260
          have HC27 := Aside0.mk H
          clear H
          go_upto_region 12 with (first | ((with_reducible refine gate_callee (f := 34) rfl ?_); refine goesL_ (some 40) rfl rfl Try.func34 (by kernel_rfl) rfl #[.slice A0 l0.length c0] rfl al_ ?_; (with_reducible refine (laws_toByteS.calls kj6 _ _ l0 t720 _ ?side1 ?side2 A23.out).mono ?_); (case side1 => exact kc_ (Kd.C_below HR0.out HB.out)); (case side2 => exact HC0.out); rintro e w28 ⟨v721, rfl, ho0, hb⟩; refine ⟨_, rfl, ?_⟩; have n0_ := Aside0.mk (Kd.R_below (kr_ HO_3.out) hb); have n1_ := Aside0.mk (Kd.R_elder' (kr_ HO_5.out) (Kd.R_base ho0) hb); have n2_ := Aside0.mk (Kd.R_below (kr_ HO_6.out) hb); have n3_ := Aside0.mk (Kd.R_lower (Kd.R_new' ho0 (Kd.R_lt (kr_ HO_5.out))) (below_size (be_ HB.out))); have n4_ := Aside0.mk (below_step (be_ HB.out) hb); clear HO_3; clear HO_5; clear HO_6; clear HB; have HO_3 := n0_; have HO_5 := n1_; have HO_6 := n2_; have HO722 := n3_; have HB := n4_; clear n0_ n1_ n2_ n3_ n4_; (try clear hb); (try clear hb2); (try clear hk); (try clear hi); (try clear ho0); obtain ⟨Ao29, co29, eo29⟩ := Kd.R_slice HO722.out; subst eo29) | ((with_reducible refine gate_callee (f := 37) rfl ?_); refine goesL_ (some 41) rfl rfl Try.func37 (by kernel_rfl) rfl #[.slice Ao12 t712.length co12, .slice Ao29 t720.length co29] rfl al_ ?_; (with_reducible refine (laws_eqByteS.calls kj6 _ _ t712 _ _ t720 true _ ?side1 ?side2 ?side3 ?side4 A24.out).mono ?_); (case side1 => exact kc_ (Kd.R_reads' HO_5.out).2.2); (case side2 => exact (Kd.R_reads' HO_5.out).2.1); (case side3 => exact kc_ (Kd.R_reads' HO722.out).2.2); (case side4 => exact (Kd.R_reads' HO722.out).2.1); rintro e w' ⟨rfl, ⟨nd, rfl⟩⟩; refine ⟨_, rfl, ?_⟩) | ((with_reducible refine gate_callee (f := 38) rfl ?_); refine goesL_ (some 45) rfl rfl Try.func38 (by kernel_rfl) rfl #[.slice Ao12 t712.length co12, .int .i64 1] rfl al_ ?_; (with_reducible refine (laws_markByteS.calls kj6 (fun k_ => some k_ = (.slice Ao12 t712.length co12 : Value).ownBlock) (.slice Ao12 t712.length co12) t712 1 t724 t725 w _ ?side1 ?side2 A26.out).mono ?_); (case side1 => repeat (first | (with_reducible first | exact HB.out | apply below_alloc | apply pw_below_drewN | apply below_drew1) | exact HB.out)); (case side2 => exact Kd.R_tight rfl HO_5.out); rintro e w30 ⟨rfl, hy0, hb, hkp⟩; refine ⟨_, rfl, ?_⟩; have n0_ := Aside0.mk (Kd.R_mono (ok' := fun k_ => some k_ ≠ (v717 : Value).ownBlock) (Kd.R_keptB ((Kd.R_apart' HO_3.out (Kd.R_typed HO_5.out) (by decide))) hkp (fun k_ hk_ hs_ => (hk_.2) hs_)) (fun k_ hk_ => hk_.1.1)); have n1_ := Aside0.mk (Kd.R_reok rfl hy0 (fun k_ e_ => HO_5.out.1 k_ e_)); have n2_ := Aside0.mk (Kd.R_mono (ok' := fun k_ => some k_ ≠ (v710 : Value).ownBlock) (Kd.R_keptB ((Kd.R_apart' HO_6.out (Kd.R_typed HO_5.out) (by decide))) hkp (fun k_ hk_ hs_ => (hk_.2) hs_)) (fun k_ hk_ => hk_.1.1)); have n3_ := Aside0.mk (Kd.R_mono (ok' := fun k_ => some k_ ≠ (.slice Ao12 t712.length co12 : Value).ownBlock) (Kd.R_keptB (HO722.out) hkp (fun k_ hk_ hs_ => (hk_.2) hs_)) (fun k_ hk_ => hk_.1.2)); have n4_ := Aside0.mk (hb); clear HO_3; clear HO_5; clear HO_6; clear HO722; clear HB; have HO_3 := n0_; have HO_5 := n1_; have HO_6 := n2_; have HO722 := n3_; have HB := n4_; clear n0_ n1_ n2_ n3_ n4_; (try clear hb); (try clear hkp); (try clear hy0)))
          (try simp only [Act.put, sa_, sz_, ss_])
          go_cut [58] (fun v58 wc => ∃ (kq : Nat) (x58_26 : Bool), v58 = .bool x58_26 ∧ Aside0 (laws_FnExactGetOps.j1 kq l0 t708 t709 t715 x58_26 = some r) ∧ Aside0 (kq ≤ kj6) ∧ Aside0 (Kd.R k84 84 wc w.heap.size (fun k_ => some k_ ≠ (v717 : Value).ownBlock) v710 t708) ∧ Aside0 (Kd.R k84 84 wc w.heap.size (fun k_ => some k_ ≠ (v710 : Value).ownBlock) v717 t715) ∧ Aside0 (Below w.heap.size w wc))
          case first =>
           have H := HC27.out
           clear HC27
           by_cases c31 : t724 < 0
           · rw [if_pos c31] at H
             have c31b0 : decide (t724 < 0) = true := decide_eq_true c31
             clear c31
             (first | rw [c31b0] | (simp only [i64_w, i32_w]; rw [c31b0]) | skip)
             have H' := Aside0.mk H
             clear H
             go_wp2
             go_meet
             case rel => exact ⟨_, (true), (by first | rfl | (simp; done) | (simp [*]; done)), H', ⟨by have := HJ6.out; first | omega | exact Nat.le_refl _⟩, ⟨by (with_reducible repeat (first | apply Kd.R_alloc | apply Kd.R_drewN | apply Kd.R_drew)); exact HO_3.out⟩, ⟨by (with_reducible repeat (first | apply Kd.R_alloc | apply Kd.R_drewN | apply Kd.R_drew)); exact HO_6.out⟩, ⟨be_ HB.out⟩⟩
           · rw [if_neg c31] at H
             have c31b0 : decide (t724 < 0) = false := decide_eq_false c31
             clear c31
             (first | rw [c31b0] | (simp only [i64_w, i32_w]; rw [c31b0]) | skip)
             replace H := Option.bind_eq_some_iff.mp H
             obtain ⟨t726, A320, H⟩ := H
             have A32 := Aside0.mk A320
             clear A320
             by_cases c33 : t726 = true
             · subst c33
               have H1 : (laws_FnExactGetOps.j1 kj6 l0 t708 t709 t715 (t716 != t709)) = some r := by rw [if_pos rfl] at H; exact H
               clear H
               have H := H1
               clear H1
               have H' := Aside0.mk H
               clear H
               obtain ⟨Ao34, co34, eo34⟩ := Kd.R_slice HO_6.out
               subst eo34
               obtain ⟨Ao35, co35, eo35⟩ := Kd.R_slice HO_3.out
               subst eo35
               go_wp2_with (first | (go_at_call 36; (with_reducible refine (laws_eqOpS.calls kj6 _ _ t715 _ _ t708 true _ ?side1 ?side2 ?side3 ?side4 A32.out).mono ?_); (case side1 => exact kc_ (Kd.R_reads' HO_6.out).2.2); (case side2 => exact (Kd.R_reads' HO_6.out).2.1); (case side3 => exact kc_ (Kd.R_reads' HO_3.out).2.2); (case side4 => exact (Kd.R_reads' HO_3.out).2.1); rintro e w36 ⟨rfl, hb⟩; have n0_ := Aside0.mk (Kd.R_below (kr_ HO_3.out) hb); have n1_ := Aside0.mk (Kd.R_below (kr_ HO_5.out) hb); have n2_ := Aside0.mk (Kd.R_below (kr_ HO_6.out) hb); have n3_ := Aside0.mk (Kd.R_below (kr_ HO722.out) hb); have n4_ := Aside0.mk (below_step (be_ HB.out) hb); clear HO_3; clear HO_5; clear HO_6; clear HO722; clear HB; have HO_3 := n0_; have HO_5 := n1_; have HO_6 := n2_; have HO722 := n3_; have HB := n4_; clear n0_ n1_ n2_ n3_ n4_; (try clear hb); (try clear hb2); (try clear hk); (try clear hi)))
               go_meet
               case rel => exact ⟨_, ((t716 != t709)), (by first | rfl | (simp; done) | (simp [*]; done)), H', ⟨by have := HJ6.out; first | omega | exact Nat.le_refl _⟩, ⟨by (with_reducible repeat (first | apply Kd.R_alloc | apply Kd.R_drewN | apply Kd.R_drew)); exact HO_3.out⟩, ⟨by (with_reducible repeat (first | apply Kd.R_alloc | apply Kd.R_drewN | apply Kd.R_drew)); exact HO_6.out⟩, ⟨be_ HB.out⟩⟩
             · replace c33 := Bool.eq_false_iff.mpr c33
               subst c33
               have H1 : (laws_FnExactGetOps.j1 kj6 l0 t708 t709 t715 true) = some r := by rw [if_neg (show ¬ (false = true) by decide)] at H; exact H
               clear H
               have H := H1
               clear H1
               have H' := Aside0.mk H
               clear H
               obtain ⟨Ao37, co37, eo37⟩ := Kd.R_slice HO_6.out
               subst eo37
               obtain ⟨Ao38, co38, eo38⟩ := Kd.R_slice HO_3.out
               subst eo38
               go_wp2_with (first | (go_at_call 36; (with_reducible refine (laws_eqOpS.calls kj6 _ _ t715 _ _ t708 false _ ?side1 ?side2 ?side3 ?side4 A32.out).mono ?_); (case side1 => exact kc_ (Kd.R_reads' HO_6.out).2.2); (case side2 => exact (Kd.R_reads' HO_6.out).2.1); (case side3 => exact kc_ (Kd.R_reads' HO_3.out).2.2); (case side4 => exact (Kd.R_reads' HO_3.out).2.1); rintro e w39 ⟨rfl, hb⟩; have n0_ := Aside0.mk (Kd.R_below (kr_ HO_3.out) hb); have n1_ := Aside0.mk (Kd.R_below (kr_ HO_5.out) hb); have n2_ := Aside0.mk (Kd.R_below (kr_ HO_6.out) hb); have n3_ := Aside0.mk (Kd.R_below (kr_ HO722.out) hb); have n4_ := Aside0.mk (below_step (be_ HB.out) hb); clear HO_3; clear HO_5; clear HO_6; clear HO722; clear HB; have HO_3 := n0_; have HO_5 := n1_; have HO_6 := n2_; have HO722 := n3_; have HB := n4_; clear n0_ n1_ n2_ n3_ n4_; (try clear hb); (try clear hb2); (try clear hk); (try clear hi)))
               go_meet
               case rel => exact ⟨_, (true), (by first | rfl | (simp; done) | (simp [*]; done)), H', ⟨by have := HJ6.out; first | omega | exact Nat.le_refl _⟩, ⟨by (with_reducible repeat (first | apply Kd.R_alloc | apply Kd.R_drewN | apply Kd.R_drew)); exact HO_3.out⟩, ⟨by (with_reducible repeat (first | apply Kd.R_alloc | apply Kd.R_drewN | apply Kd.R_drew)); exact HO_6.out⟩, ⟨be_ HB.out⟩⟩
          case rest =>
           clear HC27
           try clear c1
           try clear c2
           try clear c2b0
           try clear c2b1
           try clear p2
           try clear c3
           try clear c8
           try clear c15
           try clear c22
           try clear c25
           try clear c31
           try clear c31b0
           try clear c33
           try clear c34
           try clear c35
           try clear c36
           try clear c37
           try clear c38
           try clear p2
           obtain ⟨kq, x58_26, rfl, HA, HJ26, HO_3, HO_6, HB⟩ := hcut
           cases kq with
           | zero => exact absurd HA.out (by simp [laws_FnExactGetOps.j1])
           | succ kj26 =>
            have H := HA.out
            clear HA
            simp only [laws_FnExactGetOps.j1] at H
            by_cases c40 : x58_26 = true
            · subst c40
              have H1 : (some false) = some r := by rw [if_pos rfl] at H; exact H
              clear H
              have H := H1
              clear H1
              obtain rfl := Option.some.inj H
              go_wp2
              go_ret
              exact ⟨by first | rfl | (simp [errW_none, errW_some] <;> rfl) | (simp [*, errW_none, errW_some] <;> rfl), be_ HB.out⟩
            · replace c40 := Bool.eq_false_iff.mpr c40
              subst c40
              have H1 : ((laws_markOpS.f kj26 t715 1).bind fun bt727 => ((laws_heldOpS.f kj26 bt727.2 1).bind fun t729 => (if t729 < 0 then (some false) else (if t729 = bt727.1 then ((laws_toByteS.f kj26 l0).bind fun t730 => ((impl_GetOps.f kj26 t730).bind fun bt733 => ((laws_eqOpS.f kj26 bt733.1 t708).bind fun t737 => (if t737 = true then (laws_FnExactGetOps.j2 kj26 bt727.2 bt727.1 (bt733.2 != t709)) else (laws_FnExactGetOps.j2 kj26 bt727.2 bt727.1 true))))) else (some false))))) = some r := by rw [if_neg (show ¬ (false = true) by decide)] at H; exact H
              clear H
              have H := H1
              clear H1
              replace H := Option.bind_eq_some_iff.mp H
              obtain ⟨⟨t727, t728⟩, A410, H⟩ := H; try dsimp only at H
              have A41 := Aside0.mk A410
              clear A410
              replace H := Option.bind_eq_some_iff.mp H
              obtain ⟨t729, A420, H⟩ := H
              have A42 := Aside0.mk A420
              clear A420
              by_cases c43 : t729 < 0
              · rw [if_pos c43] at H
                have c43b0 : decide (t729 < 0) = true := decide_eq_true c43
                clear c43
                obtain rfl := Option.some.inj H
                obtain ⟨Ao44, co44, eo44⟩ := Kd.R_slice HO_6.out
                subst eo44
                go_wp2_with (first | ((with_reducible refine gate_callee (f := 39) rfl ?_); refine goesL_ (some 61) rfl rfl Try.func39 (by kernel_rfl) rfl #[.slice Ao44 t715.length co44, .int .i64 1] rfl al_ ?_; (with_reducible refine (laws_markOpS.calls kj26 (fun k_ => some k_ = (.slice Ao44 t715.length co44 : Value).ownBlock) (.slice Ao44 t715.length co44) t715 1 t727 t728 w _ ?side1 ?side2 A41.out).mono ?_); (case side1 => repeat (first | (with_reducible first | exact HB.out | apply below_alloc | apply pw_below_drewN | apply below_drew1) | exact HB.out)); (case side2 => exact Kd.R_tight rfl HO_6.out); rintro e w45 ⟨rfl, hy0, hb, hkp⟩; refine ⟨_, rfl, ?_⟩; have n0_ := Aside0.mk (Kd.R_mono (ok' := fun k_ => some k_ ≠ (.slice Ao44 t715.length co44 : Value).ownBlock) (Kd.R_keptB (HO_3.out) hkp (fun k_ hk_ hs_ => (hk_) hs_)) (fun k_ hk_ => hk_.1)); have n1_ := Aside0.mk (Kd.R_reok rfl hy0 (fun k_ e_ => HO_6.out.1 k_ e_)); have n2_ := Aside0.mk (hb); clear HO_3; clear HO_6; clear HB; have HO_3 := n0_; have HO_6 := n1_; have HB := n2_; clear n0_ n1_ n2_; (try clear hb); (try clear hkp); (try clear hy0)) | ((with_reducible refine gate_callee (f := 40) rfl ?_); refine goesL_ (some 64) rfl rfl Try.func40 (by kernel_rfl) rfl #[.slice Ao44 t728.length co44, .int .i64 1] rfl (by (try simp only [List.map_toArray, List.map_cons, List.map_nil]); first | done | (rw [show t728.length = t715.length from (Kd.R_reads' HO_6.out).1.symm] <;> rfl) | rfl | (simp only [List.length_drop, List.length_take]; rfl)) ?_; (with_reducible refine (laws_heldOpS.calls kj26 _ _ t728 1 t729 _ ?side1 ?side2 A42.out).mono ?_); (case side1 => exact kc_ (Kd.R_reads' HO_6.out).2.2); (case side2 => rw [show t728.length = t715.length from (Kd.R_reads' HO_6.out).1.symm]; exact (Kd.R_reads' HO_6.out).2.1); rintro e w46 ⟨rfl, hb⟩; refine ⟨_, rfl, ?_⟩; have n0_ := Aside0.mk (Kd.R_below (kr_ HO_3.out) hb); have n1_ := Aside0.mk (Kd.R_below (kr_ HO_6.out) hb); have n2_ := Aside0.mk (below_step (be_ HB.out) hb); clear HO_3; clear HO_6; clear HB; have HO_3 := n0_; have HO_6 := n1_; have HB := n2_; clear n0_ n1_ n2_; (try clear hb); (try clear hb2); (try clear hk); (try clear hi)))
                go_ret
                exact ⟨by first | rfl | (simp [errW_none, errW_some] <;> rfl) | (simp [*, errW_none, errW_some] <;> rfl), be_ HB.out⟩
              · rw [if_neg c43] at H
                have c43b0 : decide (t729 < 0) = false := decide_eq_false c43
                clear c43
                by_cases c47 : t729 = t727
                · rw [if_pos c47] at H
                  have c47b0 : (t729 == t727) = true := beq_iff_eq.mpr c47
                  have c47b1 : (t729 != t727) = false := bne_eq_false_iff_eq.mpr c47
                  clear c47
                  replace H := Option.bind_eq_some_iff.mp H
                  obtain ⟨t730, A480, H⟩ := H
                  have A48 := Aside0.mk A480
                  clear A480
                  replace H := Option.bind_eq_some_iff.mp H
                  obtain ⟨⟨t733, t734⟩, A490, H⟩ := H; try dsimp only at H
                  have A49 := Aside0.mk A490
                  clear A490
                  have HC50 := Aside0.mk H
                  clear H
                  obtain ⟨Ao51, co51, eo51⟩ := Kd.R_slice HO_6.out
                  subst eo51
                  go_upto_region 23 with (first | ((with_reducible refine gate_callee (f := 39) rfl ?_); refine goesL_ (some 61) rfl rfl Try.func39 (by kernel_rfl) rfl #[.slice Ao51 t715.length co51, .int .i64 1] rfl al_ ?_; (with_reducible refine (laws_markOpS.calls kj26 (fun k_ => some k_ = (.slice Ao51 t715.length co51 : Value).ownBlock) (.slice Ao51 t715.length co51) t715 1 t727 t728 w _ ?side1 ?side2 A41.out).mono ?_); (case side1 => repeat (first | (with_reducible first | exact HB.out | apply below_alloc | apply pw_below_drewN | apply below_drew1) | exact HB.out)); (case side2 => exact Kd.R_tight rfl HO_6.out); rintro e w52 ⟨rfl, hy0, hb, hkp⟩; refine ⟨_, rfl, ?_⟩; have n0_ := Aside0.mk (Kd.R_mono (ok' := fun k_ => some k_ ≠ (.slice Ao51 t715.length co51 : Value).ownBlock) (Kd.R_keptB (HO_3.out) hkp (fun k_ hk_ hs_ => (hk_) hs_)) (fun k_ hk_ => hk_.1)); have n1_ := Aside0.mk (Kd.R_reok rfl hy0 (fun k_ e_ => HO_6.out.1 k_ e_)); have n2_ := Aside0.mk (hb); clear HO_3; clear HO_6; clear HB; have HO_3 := n0_; have HO_6 := n1_; have HB := n2_; clear n0_ n1_ n2_; (try clear hb); (try clear hkp); (try clear hy0)) | ((with_reducible refine gate_callee (f := 40) rfl ?_); refine goesL_ (some 64) rfl rfl Try.func40 (by kernel_rfl) rfl #[.slice Ao51 t728.length co51, .int .i64 1] rfl (by (try simp only [List.map_toArray, List.map_cons, List.map_nil]); first | done | (rw [show t728.length = t715.length from (Kd.R_reads' HO_6.out).1.symm] <;> rfl) | rfl | (simp only [List.length_drop, List.length_take]; rfl)) ?_; (with_reducible refine (laws_heldOpS.calls kj26 _ _ t728 1 t729 _ ?side1 ?side2 A42.out).mono ?_); (case side1 => exact kc_ (Kd.R_reads' HO_6.out).2.2); (case side2 => rw [show t728.length = t715.length from (Kd.R_reads' HO_6.out).1.symm]; exact (Kd.R_reads' HO_6.out).2.1); rintro e w53 ⟨rfl, hb⟩; refine ⟨_, rfl, ?_⟩; have n0_ := Aside0.mk (Kd.R_below (kr_ HO_3.out) hb); have n1_ := Aside0.mk (Kd.R_below (kr_ HO_6.out) hb); have n2_ := Aside0.mk (below_step (be_ HB.out) hb); clear HO_3; clear HO_6; clear HB; have HO_3 := n0_; have HO_6 := n1_; have HB := n2_; clear n0_ n1_ n2_; (try clear hb); (try clear hb2); (try clear hk); (try clear hi)) | ((with_reducible refine gate_callee (f := 34) rfl ?_); refine goesL_ (some 72) rfl rfl Try.func34 (by kernel_rfl) rfl #[.slice A0 l0.length c0] rfl al_ ?_; (with_reducible refine (laws_toByteS.calls kj26 _ _ l0 t730 _ ?side1 ?side2 A48.out).mono ?_); (case side1 => exact kc_ (Kd.C_below HR0.out HB.out)); (case side2 => exact HC0.out); rintro e w54 ⟨v731, rfl, ho0, hb⟩; refine ⟨_, rfl, ?_⟩; have n0_ := Aside0.mk (Kd.R_below (kr_ HO_3.out) hb); have n1_ := Aside0.mk (Kd.R_below (kr_ HO_6.out) hb); have n2_ := Aside0.mk (Kd.R_lower ho0 (below_size (be_ HB.out))); have n3_ := Aside0.mk (below_step (be_ HB.out) hb); clear HO_3; clear HO_6; clear HB; have HO_3 := n0_; have HO_6 := n1_; have HO732 := n2_; have HB := n3_; clear n0_ n1_ n2_ n3_; (try clear hb); (try clear hb2); (try clear hk); (try clear hi); (try clear ho0); obtain ⟨Ao55, co55, eo55⟩ := Kd.R_slice HO732.out; subst eo55) | ((with_reducible refine gate_callee (f := 35) rfl ?_); refine goesL_ (some 73) rfl rfl Try.func35 (by kernel_rfl) rfl #[.slice Ao55 t730.length co55] rfl al_ ?_; (with_reducible refine (impl_GetOps.calls kj26 _ _ t730 t733 t734 _ ?side1 ?side2 A49.out).mono ?_); (case side1 => exact kc_ (Kd.R_reads' HO732.out).2.2); (case side2 => exact (Kd.R_reads' HO732.out).2.1); rintro e w56 ⟨v735, rfl, ho0, hb⟩; refine ⟨_, rfl, ?_⟩; have n0_ := Aside0.mk (Kd.R_elder' (kr_ HO_3.out) (Kd.R_base ho0) hb); have n1_ := Aside0.mk (Kd.R_elder' (kr_ HO_6.out) (Kd.R_base ho0) hb); have n2_ := Aside0.mk (Kd.R_below (kr_ HO732.out) hb); have n3_ := Aside0.mk (Kd.R_lower (Kd.R_new' (Kd.R_new' ho0 (Kd.R_lt (kr_ HO_3.out))) (Kd.R_lt (kr_ HO_6.out))) (below_size (be_ HB.out))); have n4_ := Aside0.mk (below_step (be_ HB.out) hb); clear HO_3; clear HO_6; clear HO732; clear HB; have HO_3 := n0_; have HO_6 := n1_; have HO732 := n2_; have HO736 := n3_; have HB := n4_; clear n0_ n1_ n2_ n3_ n4_; (try clear hb); (try clear hb2); (try clear hk); (try clear hi); (try clear ho0)))
                  (try simp only [Act.put, sa_, sz_, ss_])
                  go_cut [84] (fun v84 wc => ∃ (kq : Nat) (x84_49 : Bool), v84 = .bool x84_49 ∧ Aside0 (laws_FnExactGetOps.j2 kq t728 t727 x84_49 = some r) ∧ Aside0 (kq ≤ kj26) ∧ Aside0 (Kd.R k84 84 wc w.heap.size (fun _ => True) (.slice Ao51 t715.length co51) t728) ∧ Aside0 (Below w.heap.size w wc))
                  case first =>
                   have H := HC50.out
                   clear HC50
                   replace H := Option.bind_eq_some_iff.mp H
                   obtain ⟨t737, A570, H⟩ := H
                   have A57 := Aside0.mk A570
                   clear A570
                   by_cases c58 : t737 = true
                   · subst c58
                     have H1 : (laws_FnExactGetOps.j2 kj26 t728 t727 (t734 != t709)) = some r := by rw [if_pos rfl] at H; exact H
                     clear H
                     have H := H1
                     clear H1
                     have H' := Aside0.mk H
                     clear H
                     obtain ⟨Ao59, co59, eo59⟩ := Kd.R_slice HO736.out
                     subst eo59
                     obtain ⟨Ao60, co60, eo60⟩ := Kd.R_slice HO_3.out
                     subst eo60
                     go_wp2_with (first | ((with_reducible refine gate_callee (f := 36) rfl ?_); refine goesL_ (some 78) rfl rfl Try.func36 (by kernel_rfl) rfl #[.slice Ao59 t733.length co59, .slice Ao60 t708.length co60] rfl al_ ?_; (with_reducible refine (laws_eqOpS.calls kj26 _ _ t733 _ _ t708 true _ ?side1 ?side2 ?side3 ?side4 A57.out).mono ?_); (case side1 => exact kc_ (Kd.R_reads' HO736.out).2.2); (case side2 => exact (Kd.R_reads' HO736.out).2.1); (case side3 => exact kc_ (Kd.R_reads' HO_3.out).2.2); (case side4 => exact (Kd.R_reads' HO_3.out).2.1); rintro e w61 ⟨rfl, hb⟩; refine ⟨_, rfl, ?_⟩; have n0_ := Aside0.mk (Kd.R_below (kr_ HO_3.out) hb); have n1_ := Aside0.mk (Kd.R_below (kr_ HO_6.out) hb); have n2_ := Aside0.mk (Kd.R_below (kr_ HO732.out) hb); have n3_ := Aside0.mk (Kd.R_below (kr_ HO736.out) hb); have n4_ := Aside0.mk (below_step (be_ HB.out) hb); clear HO_3; clear HO_6; clear HO732; clear HO736; clear HB; have HO_3 := n0_; have HO_6 := n1_; have HO732 := n2_; have HO736 := n3_; have HB := n4_; clear n0_ n1_ n2_ n3_ n4_; (try clear hb); (try clear hb2); (try clear hk); (try clear hi)))
                     go_meet
                     case rel => exact ⟨_, ((t734 != t709)), (by first | rfl | (simp; done) | (simp [*]; done)), H', ⟨by have := HJ6.out; have := HJ26.out; first | omega | exact Nat.le_refl _⟩, ⟨by (with_reducible repeat (first | apply Kd.R_alloc | apply Kd.R_drewN | apply Kd.R_drew)); exact Kd.R_mono HO_6.out (fun _ hk => trivial)⟩, ⟨be_ HB.out⟩⟩
                   · replace c58 := Bool.eq_false_iff.mpr c58
                     subst c58
                     have H1 : (laws_FnExactGetOps.j2 kj26 t728 t727 true) = some r := by rw [if_neg (show ¬ (false = true) by decide)] at H; exact H
                     clear H
                     have H := H1
                     clear H1
                     have H' := Aside0.mk H
                     clear H
                     obtain ⟨Ao62, co62, eo62⟩ := Kd.R_slice HO736.out
                     subst eo62
                     obtain ⟨Ao63, co63, eo63⟩ := Kd.R_slice HO_3.out
                     subst eo63
                     go_wp2_with (first | ((with_reducible refine gate_callee (f := 36) rfl ?_); refine goesL_ (some 78) rfl rfl Try.func36 (by kernel_rfl) rfl #[.slice Ao62 t733.length co62, .slice Ao63 t708.length co63] rfl al_ ?_; (with_reducible refine (laws_eqOpS.calls kj26 _ _ t733 _ _ t708 false _ ?side1 ?side2 ?side3 ?side4 A57.out).mono ?_); (case side1 => exact kc_ (Kd.R_reads' HO736.out).2.2); (case side2 => exact (Kd.R_reads' HO736.out).2.1); (case side3 => exact kc_ (Kd.R_reads' HO_3.out).2.2); (case side4 => exact (Kd.R_reads' HO_3.out).2.1); rintro e w64 ⟨rfl, hb⟩; refine ⟨_, rfl, ?_⟩; have n0_ := Aside0.mk (Kd.R_below (kr_ HO_3.out) hb); have n1_ := Aside0.mk (Kd.R_below (kr_ HO_6.out) hb); have n2_ := Aside0.mk (Kd.R_below (kr_ HO732.out) hb); have n3_ := Aside0.mk (Kd.R_below (kr_ HO736.out) hb); have n4_ := Aside0.mk (below_step (be_ HB.out) hb); clear HO_3; clear HO_6; clear HO732; clear HO736; clear HB; have HO_3 := n0_; have HO_6 := n1_; have HO732 := n2_; have HO736 := n3_; have HB := n4_; clear n0_ n1_ n2_ n3_ n4_; (try clear hb); (try clear hb2); (try clear hk); (try clear hi)))
                     go_meet
                     case rel => exact ⟨_, (true), (by first | rfl | (simp; done) | (simp [*]; done)), H', ⟨by have := HJ6.out; have := HJ26.out; first | omega | exact Nat.le_refl _⟩, ⟨by (with_reducible repeat (first | apply Kd.R_alloc | apply Kd.R_drewN | apply Kd.R_drew)); exact Kd.R_mono HO_6.out (fun _ hk => trivial)⟩, ⟨be_ HB.out⟩⟩
                  case rest =>
                   clear HC50
                   try clear c1
                   try clear c2
                   try clear c2b0
                   try clear c2b1
                   try clear p2
                   try clear c3
                   try clear c4
                   try clear c5
                   try clear c8
                   try clear c15
                   try clear c22
                   try clear c25
                   try clear c31
                   try clear c31b0
                   try clear c33
                   try clear c34
                   try clear c35
                   try clear c36
                   try clear c37
                   try clear c38
                   try clear c39
                   try clear c40
                   try clear c43
                   try clear c43b0
                   try clear c47
                   try clear c47b0
                   try clear c47b1
                   try clear c58
                   try clear p2
                   obtain ⟨kq, x84_49, rfl, HA, HJ49, HO_6, HB⟩ := hcut
                   have hl6_49 := (Kd.R_reads' HO_6.out).1
                   rw [hl6_49] at HO_6
                   (try simp only [hl6_49])
                   cases kq with
                   | zero => exact absurd HA.out (by simp [laws_FnExactGetOps.j2])
                   | succ kj49 =>
                    have H := HA.out
                    clear HA
                    simp only [laws_FnExactGetOps.j2] at H
                    by_cases c65 : x84_49 = true
                    · subst c65
                      have H1 : (some false) = some r := by rw [if_pos rfl] at H; exact H
                      clear H
                      have H := H1
                      clear H1
                      obtain rfl := Option.some.inj H
                      go_wp2
                      go_ret
                      exact ⟨by first | rfl | (simp [errW_none, errW_some] <;> rfl) | (simp [*, errW_none, errW_some] <;> rfl), be_ HB.out⟩
                    · replace c65 := Bool.eq_false_iff.mpr c65
                      subst c65
                      have H1 : ((laws_heldOpS.f kj49 t728 1).bind fun t738 => (if t738 < 0 then (some false) else (if t738 = t727 then (some true) else (some false)))) = some r := by rw [if_neg (show ¬ (false = true) by decide)] at H; exact H
                      clear H
                      have H := H1
                      clear H1
                      replace H := Option.bind_eq_some_iff.mp H
                      obtain ⟨t738, A660, H⟩ := H
                      have A66 := Aside0.mk A660
                      clear A660
                      by_cases c67 : t738 < 0
                      · rw [if_pos c67] at H
                        have c67b0 : decide (t738 < 0) = true := decide_eq_true c67
                        clear c67
                        obtain rfl := Option.some.inj H
                        go_wp2_with (first | ((with_reducible refine gate_callee (f := 40) rfl ?_); refine goesL_ (some 87) rfl rfl Try.func40 (by kernel_rfl) rfl #[.slice Ao51 t728.length co51, .int .i64 1] rfl al_ ?_; (with_reducible refine (laws_heldOpS.calls kj49 _ _ t728 1 t738 _ ?side1 ?side2 A66.out).mono ?_); (case side1 => exact kc_ (Kd.R_reads' HO_6.out).2.2); (case side2 => exact (Kd.R_reads' HO_6.out).2.1); rintro e w68 ⟨rfl, hb⟩; refine ⟨_, rfl, ?_⟩; have n0_ := Aside0.mk (Kd.R_below (kr_ HO_6.out) hb); have n1_ := Aside0.mk (below_step (be_ HB.out) hb); clear HO_6; clear HB; have HO_6 := n0_; have HB := n1_; clear n0_ n1_; (try clear hb); (try clear hb2); (try clear hk); (try clear hi)))
                        go_ret
                        exact ⟨by first | rfl | (simp [errW_none, errW_some] <;> rfl) | (simp [*, errW_none, errW_some] <;> rfl), be_ HB.out⟩
                      · rw [if_neg c67] at H
                        have c67b0 : decide (t738 < 0) = false := decide_eq_false c67
                        clear c67
                        by_cases c69 : t738 = t727
                        · rw [if_pos c69] at H
                          have c69b0 : (t738 == t727) = true := beq_iff_eq.mpr c69
                          have c69b1 : (t738 != t727) = false := bne_eq_false_iff_eq.mpr c69
                          clear c69
                          obtain rfl := Option.some.inj H
                          go_wp2_with (first | ((with_reducible refine gate_callee (f := 40) rfl ?_); refine goesL_ (some 87) rfl rfl Try.func40 (by kernel_rfl) rfl #[.slice Ao51 t728.length co51, .int .i64 1] rfl al_ ?_; (with_reducible refine (laws_heldOpS.calls kj49 _ _ t728 1 t738 _ ?side1 ?side2 A66.out).mono ?_); (case side1 => exact kc_ (Kd.R_reads' HO_6.out).2.2); (case side2 => exact (Kd.R_reads' HO_6.out).2.1); rintro e w70 ⟨rfl, hb⟩; refine ⟨_, rfl, ?_⟩; have n0_ := Aside0.mk (Kd.R_below (kr_ HO_6.out) hb); have n1_ := Aside0.mk (below_step (be_ HB.out) hb); clear HO_6; clear HB; have HO_6 := n0_; have HB := n1_; clear n0_ n1_; (try clear hb); (try clear hb2); (try clear hk); (try clear hi)))
                          go_ret
                          exact ⟨by first | rfl | (simp [errW_none, errW_some] <;> rfl) | (simp [*, errW_none, errW_some] <;> rfl), be_ HB.out⟩
                        · rw [if_neg c69] at H
                          have c69b0 : (t738 == t727) = false := beq_eq_false_iff_ne.mpr c69
                          have c69b1 : (t738 != t727) = true := bne_iff_ne.mpr c69
                          obtain rfl := Option.some.inj H
                          go_wp2_with (first | ((with_reducible refine gate_callee (f := 40) rfl ?_); refine goesL_ (some 87) rfl rfl Try.func40 (by kernel_rfl) rfl #[.slice Ao51 t728.length co51, .int .i64 1] rfl al_ ?_; (with_reducible refine (laws_heldOpS.calls kj49 _ _ t728 1 t738 _ ?side1 ?side2 A66.out).mono ?_); (case side1 => exact kc_ (Kd.R_reads' HO_6.out).2.2); (case side2 => exact (Kd.R_reads' HO_6.out).2.1); rintro e w71 ⟨rfl, hb⟩; refine ⟨_, rfl, ?_⟩; have n0_ := Aside0.mk (Kd.R_below (kr_ HO_6.out) hb); have n1_ := Aside0.mk (below_step (be_ HB.out) hb); clear HO_6; clear HB; have HO_6 := n0_; have HB := n1_; clear n0_ n1_; (try clear hb); (try clear hb2); (try clear hk); (try clear hi)))
                          go_ret
                          exact ⟨by first | rfl | (simp [errW_none, errW_some] <;> rfl) | (simp [*, errW_none, errW_some] <;> rfl), be_ HB.out⟩
                · rw [if_neg c47] at H
                  have c47b0 : (t729 == t727) = false := beq_eq_false_iff_ne.mpr c47
                  have c47b1 : (t729 != t727) = true := bne_iff_ne.mpr c47
                  obtain rfl := Option.some.inj H
                  obtain ⟨Ao72, co72, eo72⟩ := Kd.R_slice HO_6.out
                  subst eo72
                  go_wp2_with (first | ((with_reducible refine gate_callee (f := 39) rfl ?_); refine goesL_ (some 61) rfl rfl Try.func39 (by kernel_rfl) rfl #[.slice Ao72 t715.length co72, .int .i64 1] rfl al_ ?_; (with_reducible refine (laws_markOpS.calls kj26 (fun k_ => some k_ = (.slice Ao72 t715.length co72 : Value).ownBlock) (.slice Ao72 t715.length co72) t715 1 t727 t728 w _ ?side1 ?side2 A41.out).mono ?_); (case side1 => repeat (first | (with_reducible first | exact HB.out | apply below_alloc | apply pw_below_drewN | apply below_drew1) | exact HB.out)); (case side2 => exact Kd.R_tight rfl HO_6.out); rintro e w73 ⟨rfl, hy0, hb, hkp⟩; refine ⟨_, rfl, ?_⟩; have n0_ := Aside0.mk (Kd.R_mono (ok' := fun k_ => some k_ ≠ (.slice Ao72 t715.length co72 : Value).ownBlock) (Kd.R_keptB (HO_3.out) hkp (fun k_ hk_ hs_ => (hk_) hs_)) (fun k_ hk_ => hk_.1)); have n1_ := Aside0.mk (Kd.R_reok rfl hy0 (fun k_ e_ => HO_6.out.1 k_ e_)); have n2_ := Aside0.mk (hb); clear HO_3; clear HO_6; clear HB; have HO_3 := n0_; have HO_6 := n1_; have HB := n2_; clear n0_ n1_ n2_; (try clear hb); (try clear hkp); (try clear hy0)) | ((with_reducible refine gate_callee (f := 40) rfl ?_); refine goesL_ (some 64) rfl rfl Try.func40 (by kernel_rfl) rfl #[.slice Ao72 t728.length co72, .int .i64 1] rfl (by (try simp only [List.map_toArray, List.map_cons, List.map_nil]); first | done | (rw [show t728.length = t715.length from (Kd.R_reads' HO_6.out).1.symm] <;> rfl) | rfl | (simp only [List.length_drop, List.length_take]; rfl)) ?_; (with_reducible refine (laws_heldOpS.calls kj26 _ _ t728 1 t729 _ ?side1 ?side2 A42.out).mono ?_); (case side1 => exact kc_ (Kd.R_reads' HO_6.out).2.2); (case side2 => rw [show t728.length = t715.length from (Kd.R_reads' HO_6.out).1.symm]; exact (Kd.R_reads' HO_6.out).2.1); rintro e w74 ⟨rfl, hb⟩; refine ⟨_, rfl, ?_⟩; have n0_ := Aside0.mk (Kd.R_below (kr_ HO_3.out) hb); have n1_ := Aside0.mk (Kd.R_below (kr_ HO_6.out) hb); have n2_ := Aside0.mk (below_step (be_ HB.out) hb); clear HO_3; clear HO_6; clear HB; have HO_3 := n0_; have HO_6 := n1_; have HB := n2_; clear n0_ n1_ n2_; (try clear hb); (try clear hb2); (try clear hk); (try clear hi)))
                  go_ret
                  exact ⟨by first | rfl | (simp [errW_none, errW_some] <;> rfl) | (simp [*, errW_none, errW_some] <;> rfl), be_ HB.out⟩
        · replace c25 := Bool.eq_false_iff.mpr c25
          subst c25
          have H1 : (some false) = some r := by rw [if_neg (show ¬ (false = true) by decide)] at H; exact H
          clear H
          have H := H1
          clear H1
          obtain rfl := Option.some.inj H
          go_wp2_with (first | ((with_reducible refine gate_callee (f := 34) rfl ?_); refine goesL_ (some 40) rfl rfl Try.func34 (by kernel_rfl) rfl #[.slice A0 l0.length c0] rfl al_ ?_; (with_reducible refine (laws_toByteS.calls kj6 _ _ l0 t720 _ ?side1 ?side2 A23.out).mono ?_); (case side1 => exact kc_ (Kd.C_below HR0.out HB.out)); (case side2 => exact HC0.out); rintro e w75 ⟨v721, rfl, ho0, hb⟩; refine ⟨_, rfl, ?_⟩; have n0_ := Aside0.mk (Kd.R_below (kr_ HO_3.out) hb); have n1_ := Aside0.mk (Kd.R_elder' (kr_ HO_5.out) (Kd.R_base ho0) hb); have n2_ := Aside0.mk (Kd.R_below (kr_ HO_6.out) hb); have n3_ := Aside0.mk (Kd.R_lower (Kd.R_new' ho0 (Kd.R_lt (kr_ HO_5.out))) (below_size (be_ HB.out))); have n4_ := Aside0.mk (below_step (be_ HB.out) hb); clear HO_3; clear HO_5; clear HO_6; clear HB; have HO_3 := n0_; have HO_5 := n1_; have HO_6 := n2_; have HO722 := n3_; have HB := n4_; clear n0_ n1_ n2_ n3_ n4_; (try clear hb); (try clear hb2); (try clear hk); (try clear hi); (try clear ho0); obtain ⟨Ao76, co76, eo76⟩ := Kd.R_slice HO722.out; subst eo76) | ((with_reducible refine gate_callee (f := 37) rfl ?_); refine goesL_ (some 41) rfl rfl Try.func37 (by kernel_rfl) rfl #[.slice Ao12 t712.length co12, .slice Ao76 t720.length co76] rfl al_ ?_; (with_reducible refine (laws_eqByteS.calls kj6 _ _ t712 _ _ t720 false _ ?side1 ?side2 ?side3 ?side4 A24.out).mono ?_); (case side1 => exact kc_ (Kd.R_reads' HO_5.out).2.2); (case side2 => exact (Kd.R_reads' HO_5.out).2.1); (case side3 => exact kc_ (Kd.R_reads' HO722.out).2.2); (case side4 => exact (Kd.R_reads' HO722.out).2.1); rintro e w' ⟨rfl, ⟨nd, rfl⟩⟩; refine ⟨_, rfl, ?_⟩))
          go_ret
          exact ⟨by first | rfl | (simp [errW_none, errW_some] <;> rfl) | (simp [*, errW_none, errW_some] <;> rfl), be_ HB.out⟩

end Go.Proofs.Ytamkjoflkkffhaa.P
