-- Written by wip/xp/xp.py over the kit's print; Lean checks it.
import Derived.Test.YtamkjoflkkffhaaPx0
import Derived.Test.YtamkjoflkkffhaaPx13
import Derived.Test.YtamkjoflkkffhaaPx15
import Derived.Test.YtamkjoflkkffhaaPx16
import Derived.Test.YtamkjoflkkffhaaPx17
import Derived.Test.YtamkjoflkkffhaaPx39
import Derived.Test.YtamkjoflkkffhaaPx41
namespace Go.Proofs.Ytamkjoflkkffhaa.P
open Go.RowKit Go.Proofs.YtamkjoflkkffhaaW.PrintWords Go.Proofs.YtamkjoflkkffhaaW.PrintLast Go.Proofs.YtamkjoflkkffhaaW.PrintMore
attribute [local go_sem] max2_int min2_int max_two min_two max_three min_three max_four min_four   -- for this text's walks alone
set_option linter.unusedVariables false
set_option linter.unusedSimpArgs false

/-! ###  laws_FnUnion: function 7 -/
mutual
def laws_FnUnion.j0 : Nat → List (S53) → List (S53) → List (S53) → Bool → Option (Bool)
  | 0, _, _, _, _ => none
  | k + 1, x3, x4, x5, x34 => if x34 = true then ((spec_UnionOf.f k x3 x4).bind fun t593 => ((laws_samePairs.f k x5 t593).bind fun t596 => (some t596))) else (laws_FnUnion.l0 k x3 x4 x5 0)
def laws_FnUnion.l0 : Nat → List (S53) → List (S53) → List (S53) → Int → Option (Bool)
  | 0, _, _, _, _ => none
  | k + 1, x3, x4, x5, x6 => if x6 < (x4.length : Int) then (if 0 ≤ x6 then ((impl_GetKey.f x5 ((rd_T53 x4 x6).f0)).bind fun bt598 => (if bt598.2 = true then (if bt598.1.toList = ((rd_T53 x4 x6).f1).toList then (laws_FnUnion.l0 k x3 x4 x5 (wrap64 (x6 + 1))) else (some false)) else (some false))) else (none)) else ((impl_UnionOf.f k x5 x4).bind fun t601 => ((laws_samePairs.f k t601 x5).bind fun t604 => (if t604 = true then (if (x5.length : Int) ≥ (x3.length : Int) then (if (x5.length : Int) ≤ (wrap64 ((x3.length : Int) + (x4.length : Int))) then ((impl_UnionOf.f k x3 (([] : List (S53)))).bind fun t608 => ((impl_UnionOf.f k t608 x4).bind fun t611 => ((laws_samePairs.f k t611 x5).bind fun t614 => (some t614)))) else (some false)) else (some false)) else (some false))))
end
def laws_FnUnion.f (k : Nat) (l0 : List Int) : Option (Bool) := (laws_big.f l0).bind fun t577 => (if t577 = true then (some true) else ((spec_DrawUnionOf.f k l0).bind fun bt578 => ((impl_UnionOf.f k bt578.1 bt578.2).bind fun t584 => ((spec_UnionOf.f k bt578.1 bt578.2).bind fun t587 => ((laws_samePairs.f k t584 t587).bind fun t590 => (if t590 = true then ((spec_PairsOk.f k bt578.1).bind fun t591 => (if t591 = true then ((spec_PairsOk.f k bt578.2).bind fun t592 => (laws_FnUnion.j0 k bt578.1 bt578.2 t584 (!t592))) else (laws_FnUnion.j0 k bt578.1 bt578.2 t584 true))) else (laws_FnUnion.j0 k bt578.1 bt578.2 t584 true)))))))
set_option maxHeartbeats 8000000 in
set_option maxRecDepth 100000 in
theorem laws_FnUnion.calls (k : Nat) (A0 : Option Addr) (c0 : Nat) (l0 : List Int) (r : Bool) (w : World) (hr0 : Kd.C (Kd.int .u8) w A0 l0.length l0) (hc0 : l0.length ≤ c0) (h : laws_FnUnion.f k l0 = some r) :
  Calls Try.prog 7 #[.slice A0 l0.length c0] w fun e w' => e = .returned (.bool r) ∧ Below w.heap.size w w' := by
  have HR0 := Aside0.mk hr0
  have HC0 := Aside0.mk hc0
  clear hr0 hc0
  have HB := Aside0.mk (Below.refl w.heap.size w)
  have H : ((laws_big.f l0).bind fun t577 => (if t577 = true then (some true) else ((spec_DrawUnionOf.f k l0).bind fun bt578 => ((impl_UnionOf.f k bt578.1 bt578.2).bind fun t584 => ((spec_UnionOf.f k bt578.1 bt578.2).bind fun t587 => ((laws_samePairs.f k t584 t587).bind fun t590 => (if t590 = true then ((spec_PairsOk.f k bt578.1).bind fun t591 => (if t591 = true then ((spec_PairsOk.f k bt578.2).bind fun t592 => (laws_FnUnion.j0 k bt578.1 bt578.2 t584 (!t592))) else (laws_FnUnion.j0 k bt578.1 bt578.2 t584 true))) else (laws_FnUnion.j0 k bt578.1 bt578.2 t584 true)))))))) = some r := h
  clear h
  replace H := Option.bind_eq_some_iff.mp H
  obtain ⟨t577, A20, H⟩ := H
  have A2 := Aside0.mk A20
  clear A20
  by_cases c3 : t577 = true
  · subst c3
    have H1 : (some true) = some r := by rw [if_pos rfl] at H; exact H
    clear H
    have H := H1
    clear H1
    obtain rfl := Option.some.inj H
    go_enter Try.func7, Try.ntmps7
    go_wp2_with (first | ((with_reducible refine gate_callee (f := 17) rfl ?_); refine goesL_ (some 10) rfl rfl Try.func17 (by kernel_rfl) rfl #[.slice A0 l0.length c0] rfl al_ ?_; (with_reducible refine (laws_big.calls _ _ l0 true _ ?side1 ?side2 A2.out).mono ?_); (case side1 => exact kc_ HR0.out); (case side2 => exact HC0.out); rintro e w' ⟨rfl, ⟨nd, rfl⟩⟩; refine ⟨_, rfl, ?_⟩))
    go_ret
    exact ⟨by first | rfl | (simp [errW_none, errW_some] <;> rfl) | (simp [*, errW_none, errW_some] <;> rfl), be_ HB.out⟩
  · replace c3 := Bool.eq_false_iff.mpr c3
    subst c3
    have H1 : ((spec_DrawUnionOf.f k l0).bind fun bt578 => ((impl_UnionOf.f k bt578.1 bt578.2).bind fun t584 => ((spec_UnionOf.f k bt578.1 bt578.2).bind fun t587 => ((laws_samePairs.f k t584 t587).bind fun t590 => (if t590 = true then ((spec_PairsOk.f k bt578.1).bind fun t591 => (if t591 = true then ((spec_PairsOk.f k bt578.2).bind fun t592 => (laws_FnUnion.j0 k bt578.1 bt578.2 t584 (!t592))) else (laws_FnUnion.j0 k bt578.1 bt578.2 t584 true))) else (laws_FnUnion.j0 k bt578.1 bt578.2 t584 true)))))) = some r := by rw [if_neg (show ¬ (false = true) by decide)] at H; exact H
    clear H
    have H := H1
    clear H1
    replace H := Option.bind_eq_some_iff.mp H
    obtain ⟨⟨t578, t579⟩, A40, H⟩ := H; try dsimp only at H
    have A4 := Aside0.mk A40
    clear A40
    replace H := Option.bind_eq_some_iff.mp H
    obtain ⟨t584, A50, H⟩ := H
    have A5 := Aside0.mk A50
    clear A50
    have HC6 := Aside0.mk H
    clear H
    go_enter Try.func7, Try.ntmps7
    go_upto_region 5 with (first | ((with_reducible refine gate_callee (f := 17) rfl ?_); refine goesL_ (some 10) rfl rfl Try.func17 (by kernel_rfl) rfl #[.slice A0 l0.length c0] rfl al_ ?_; (with_reducible refine (laws_big.calls _ _ l0 false _ ?side1 ?side2 A2.out).mono ?_); (case side1 => exact kc_ HR0.out); (case side2 => exact HC0.out); rintro e w' ⟨rfl, ⟨nd, rfl⟩⟩; refine ⟨_, rfl, ?_⟩) | ((with_reducible refine gate_callee (f := 29) rfl ?_); refine goesL_ (some 13) rfl rfl Try.func29 (by kernel_rfl) rfl #[.slice A0 l0.length c0] rfl al_ ?_; (with_reducible refine (spec_DrawUnionOf.calls k _ _ l0 t578 t579 _ ?side1 ?side2 A4.out).mono ?_); (case side1 => exact kc_ HR0.out); (case side2 => exact HC0.out); rintro e w7 ⟨v580, v582, rfl, ho0, ho1, hb⟩; refine ⟨_, rfl, ?_⟩; have n0_ := Aside0.mk (Kd.R_lower ho0 (below_size (be_ HB.out))); have n1_ := Aside0.mk (Kd.R_lower ho1 (below_size (be_ HB.out))); have n2_ := Aside0.mk (below_step (be_ HB.out) hb); clear HB; have HO581 := n0_; have HO583 := n1_; have HB := n2_; clear n0_ n1_ n2_; (try clear hb); (try clear hb2); (try clear hk); (try clear hi); (try clear ho0); (try clear ho1); obtain ⟨Ao8, co8, eo8⟩ := Kd.R_slice HO581.out; subst eo8; obtain ⟨Ao9, co9, eo9⟩ := Kd.R_slice HO583.out; subst eo9) | ((with_reducible refine gate_callee (f := 28) rfl ?_); refine goesL_ (some 18) rfl rfl Try.func28 (by kernel_rfl) rfl #[.slice Ao8 t578.length co8, .slice Ao9 t579.length co9] rfl al_ ?_; (with_reducible refine (impl_UnionOf.calls k _ _ t578 _ _ t579 t584 _ ?side1 ?side2 ?side3 ?side4 A5.out).mono ?_); (case side1 => exact kc_ (Kd.R_reads' HO581.out).2.2); (case side2 => exact (Kd.R_reads' HO581.out).2.1); (case side3 => exact kc_ (Kd.R_reads' HO583.out).2.2); (case side4 => exact (Kd.R_reads' HO583.out).2.1); rintro e w10 ⟨v585, rfl, ho0, hb⟩; refine ⟨_, rfl, ?_⟩; have n0_ := Aside0.mk (Kd.R_elder' (kr_ HO581.out) (Kd.R_base ho0) hb); have n1_ := Aside0.mk (Kd.R_elder' (kr_ HO583.out) (Kd.R_base ho0) hb); have n2_ := Aside0.mk (Kd.R_lower (Kd.R_new' (Kd.R_new' ho0 (Kd.R_lt (kr_ HO581.out))) (Kd.R_lt (kr_ HO583.out))) (below_size (be_ HB.out))); have n3_ := Aside0.mk (below_step (be_ HB.out) hb); clear HO581; clear HO583; clear HB; have HO581 := n0_; have HO583 := n1_; have HO586 := n2_; have HB := n3_; clear n0_ n1_ n2_ n3_; (try clear hb); (try clear hb2); (try clear hk); (try clear hi); (try clear ho0)))
    (try simp only [Act.put, sa_, sz_, ss_])
    go_cut [34] (fun v34 wc => ∃ (kq : Nat) (x34_5 : Bool), v34 = .bool x34_5 ∧ Aside0 (laws_FnUnion.j0 kq t578 t579 t584 x34_5 = some r) ∧ Aside0 (kq ≤ k) ∧ Aside0 (Kd.R k53 53 wc w.heap.size (fun k_ => some k_ ≠ ((.slice Ao9 t579.length co9) : Value).ownBlock ∧ some k_ ≠ (v585 : Value).ownBlock) (.slice Ao8 t578.length co8) t578) ∧ Aside0 (Kd.R k53 53 wc w.heap.size (fun k_ => some k_ ≠ ((.slice Ao8 t578.length co8) : Value).ownBlock ∧ some k_ ≠ (v585 : Value).ownBlock) (.slice Ao9 t579.length co9) t579) ∧ Aside0 (Kd.R k53 53 wc w.heap.size (fun k_ => some k_ ≠ ((.slice Ao8 t578.length co8) : Value).ownBlock ∧ some k_ ≠ ((.slice Ao9 t579.length co9) : Value).ownBlock) v585 t584) ∧ Aside0 (Below w.heap.size w wc))
    case first =>
     have H := HC6.out
     clear HC6
     replace H := Option.bind_eq_some_iff.mp H
     obtain ⟨t587, A110, H⟩ := H
     have A11 := Aside0.mk A110
     clear A110
     replace H := Option.bind_eq_some_iff.mp H
     obtain ⟨t590, A120, H⟩ := H
     have A12 := Aside0.mk A120
     clear A120
     by_cases c13 : t590 = true
     · subst c13
       have H1 : ((spec_PairsOk.f k t578).bind fun t591 => (if t591 = true then ((spec_PairsOk.f k t579).bind fun t592 => (laws_FnUnion.j0 k t578 t579 t584 (!t592))) else (laws_FnUnion.j0 k t578 t579 t584 true))) = some r := by rw [if_pos rfl] at H; exact H
       clear H
       have H := H1
       clear H1
       replace H := Option.bind_eq_some_iff.mp H
       obtain ⟨t591, A140, H⟩ := H
       have A14 := Aside0.mk A140
       clear A140
       by_cases c15 : t591 = true
       · subst c15
         have H1 : ((spec_PairsOk.f k t579).bind fun t592 => (laws_FnUnion.j0 k t578 t579 t584 (!t592))) = some r := by rw [if_pos rfl] at H; exact H
         clear H
         have H := H1
         clear H1
         replace H := Option.bind_eq_some_iff.mp H
         obtain ⟨t592, A160, H⟩ := H
         have A16 := Aside0.mk A160
         clear A160
         have H' := Aside0.mk H
         clear H
         go_wp2_with (first | ((with_reducible refine gate_callee (f := 27) rfl ?_); refine goesL_ (some 22) rfl rfl Try.func27 (by kernel_rfl) rfl #[.slice Ao8 t578.length co8, .slice Ao9 t579.length co9] rfl al_ ?_; (with_reducible refine (spec_UnionOf.calls k _ _ t578 _ _ t579 t587 _ ?side1 ?side2 ?side3 ?side4 A11.out).mono ?_); (case side1 => exact kc_ (Kd.R_reads' HO581.out).2.2); (case side2 => exact (Kd.R_reads' HO581.out).2.1); (case side3 => exact kc_ (Kd.R_reads' HO583.out).2.2); (case side4 => exact (Kd.R_reads' HO583.out).2.1); rintro e w17 ⟨v588, rfl, ho0, hb⟩; refine ⟨_, rfl, ?_⟩; have n0_ := Aside0.mk (Kd.R_elder' (kr_ HO581.out) (Kd.R_base ho0) hb); have n1_ := Aside0.mk (Kd.R_elder' (kr_ HO583.out) (Kd.R_base ho0) hb); have n2_ := Aside0.mk (Kd.R_elder' (kr_ HO586.out) (Kd.R_base ho0) hb); have n3_ := Aside0.mk (Kd.R_lower (Kd.R_new' (Kd.R_new' (Kd.R_new' ho0 (Kd.R_lt (kr_ HO581.out))) (Kd.R_lt (kr_ HO583.out))) (Kd.R_lt (kr_ HO586.out))) (below_size (be_ HB.out))); have n4_ := Aside0.mk (below_step (be_ HB.out) hb); clear HO581; clear HO583; clear HO586; clear HB; have HO581 := n0_; have HO583 := n1_; have HO586 := n2_; have HO589 := n3_; have HB := n4_; clear n0_ n1_ n2_ n3_ n4_; (try clear hb); (try clear hb2); (try clear hk); (try clear hi); (try clear ho0); obtain ⟨Ao18, co18, eo18⟩ := Kd.R_slice HO586.out; subst eo18; obtain ⟨Ao19, co19, eo19⟩ := Kd.R_slice HO589.out; subst eo19) | ((with_reducible refine gate_callee (f := 30) rfl ?_); refine goesL_ (some 23) rfl rfl Try.func30 (by kernel_rfl) rfl #[.slice Ao18 t584.length co18, .slice Ao19 t587.length co19] rfl al_ ?_; (with_reducible refine (laws_samePairs.calls k _ _ t584 _ _ t587 true _ ?side1 ?side2 ?side3 ?side4 A12.out).mono ?_); (case side1 => exact kc_ (Kd.R_reads' HO586.out).2.2); (case side2 => exact (Kd.R_reads' HO586.out).2.1); (case side3 => exact kc_ (Kd.R_reads' HO589.out).2.2); (case side4 => exact (Kd.R_reads' HO589.out).2.1); rintro e w' ⟨rfl, ⟨nd, rfl⟩⟩; refine ⟨_, rfl, ?_⟩) | (go_at_call 31; (with_reducible refine (spec_PairsOk.calls k _ _ t578 true _ ?side1 ?side2 A14.out).mono ?_); (case side1 => exact kc_ (Kd.R_reads' HO581.out).2.2); (case side2 => exact (Kd.R_reads' HO581.out).2.1); rintro e w20 ⟨rfl, hb⟩; have n0_ := Aside0.mk (Kd.R_below (kr_ HO581.out) hb); have n1_ := Aside0.mk (Kd.R_below (kr_ HO583.out) hb); have n2_ := Aside0.mk (Kd.R_below (kr_ HO586.out) hb); have n3_ := Aside0.mk (Kd.R_below (kr_ HO589.out) hb); have n4_ := Aside0.mk (below_step (be_ HB.out) hb); clear HO581; clear HO583; clear HO586; clear HO589; clear HB; have HO581 := n0_; have HO583 := n1_; have HO586 := n2_; have HO589 := n3_; have HB := n4_; clear n0_ n1_ n2_ n3_ n4_; (try clear hb); (try clear hb2); (try clear hk); (try clear hi)) | (go_at_call 31; (with_reducible refine (spec_PairsOk.calls k _ _ t579 t592 _ ?side1 ?side2 A16.out).mono ?_); (case side1 => exact kc_ (Kd.R_reads' HO583.out).2.2); (case side2 => exact (Kd.R_reads' HO583.out).2.1); rintro e w21 ⟨rfl, hb⟩; have n0_ := Aside0.mk (Kd.R_below (kr_ HO581.out) hb); have n1_ := Aside0.mk (Kd.R_below (kr_ HO583.out) hb); have n2_ := Aside0.mk (Kd.R_below (kr_ HO586.out) hb); have n3_ := Aside0.mk (Kd.R_below (kr_ HO589.out) hb); have n4_ := Aside0.mk (below_step (be_ HB.out) hb); clear HO581; clear HO583; clear HO586; clear HO589; clear HB; have HO581 := n0_; have HO583 := n1_; have HO586 := n2_; have HO589 := n3_; have HB := n4_; clear n0_ n1_ n2_ n3_ n4_; (try clear hb); (try clear hb2); (try clear hk); (try clear hi)))
         go_meet
         case rel => exact ⟨_, (!t592), (by first | rfl | (simp; done) | (simp [*]; done)), H', ⟨by first | omega | exact Nat.le_refl _⟩, ⟨by (with_reducible repeat (first | apply Kd.R_alloc | apply Kd.R_drewN | apply Kd.R_drew)); exact Kd.R_mono HO581.out (fun _ hk => ⟨hk.1.1, hk.1.2⟩)⟩, ⟨by (with_reducible repeat (first | apply Kd.R_alloc | apply Kd.R_drewN | apply Kd.R_drew)); exact Kd.R_mono HO583.out (fun _ hk => ⟨hk.1.1, hk.1.2⟩)⟩, ⟨by (with_reducible repeat (first | apply Kd.R_alloc | apply Kd.R_drewN | apply Kd.R_drew)); exact Kd.R_mono HO586.out (fun _ hk => ⟨hk.1.1.2, hk.1.2⟩)⟩, ⟨be_ HB.out⟩⟩
       · replace c15 := Bool.eq_false_iff.mpr c15
         subst c15
         have H1 : (laws_FnUnion.j0 k t578 t579 t584 true) = some r := by rw [if_neg (show ¬ (false = true) by decide)] at H; exact H
         clear H
         have H := H1
         clear H1
         have H' := Aside0.mk H
         clear H
         go_wp2_with (first | ((with_reducible refine gate_callee (f := 27) rfl ?_); refine goesL_ (some 22) rfl rfl Try.func27 (by kernel_rfl) rfl #[.slice Ao8 t578.length co8, .slice Ao9 t579.length co9] rfl al_ ?_; (with_reducible refine (spec_UnionOf.calls k _ _ t578 _ _ t579 t587 _ ?side1 ?side2 ?side3 ?side4 A11.out).mono ?_); (case side1 => exact kc_ (Kd.R_reads' HO581.out).2.2); (case side2 => exact (Kd.R_reads' HO581.out).2.1); (case side3 => exact kc_ (Kd.R_reads' HO583.out).2.2); (case side4 => exact (Kd.R_reads' HO583.out).2.1); rintro e w22 ⟨v588, rfl, ho0, hb⟩; refine ⟨_, rfl, ?_⟩; have n0_ := Aside0.mk (Kd.R_elder' (kr_ HO581.out) (Kd.R_base ho0) hb); have n1_ := Aside0.mk (Kd.R_elder' (kr_ HO583.out) (Kd.R_base ho0) hb); have n2_ := Aside0.mk (Kd.R_elder' (kr_ HO586.out) (Kd.R_base ho0) hb); have n3_ := Aside0.mk (Kd.R_lower (Kd.R_new' (Kd.R_new' (Kd.R_new' ho0 (Kd.R_lt (kr_ HO581.out))) (Kd.R_lt (kr_ HO583.out))) (Kd.R_lt (kr_ HO586.out))) (below_size (be_ HB.out))); have n4_ := Aside0.mk (below_step (be_ HB.out) hb); clear HO581; clear HO583; clear HO586; clear HB; have HO581 := n0_; have HO583 := n1_; have HO586 := n2_; have HO589 := n3_; have HB := n4_; clear n0_ n1_ n2_ n3_ n4_; (try clear hb); (try clear hb2); (try clear hk); (try clear hi); (try clear ho0); obtain ⟨Ao23, co23, eo23⟩ := Kd.R_slice HO586.out; subst eo23; obtain ⟨Ao24, co24, eo24⟩ := Kd.R_slice HO589.out; subst eo24) | ((with_reducible refine gate_callee (f := 30) rfl ?_); refine goesL_ (some 23) rfl rfl Try.func30 (by kernel_rfl) rfl #[.slice Ao23 t584.length co23, .slice Ao24 t587.length co24] rfl al_ ?_; (with_reducible refine (laws_samePairs.calls k _ _ t584 _ _ t587 true _ ?side1 ?side2 ?side3 ?side4 A12.out).mono ?_); (case side1 => exact kc_ (Kd.R_reads' HO586.out).2.2); (case side2 => exact (Kd.R_reads' HO586.out).2.1); (case side3 => exact kc_ (Kd.R_reads' HO589.out).2.2); (case side4 => exact (Kd.R_reads' HO589.out).2.1); rintro e w' ⟨rfl, ⟨nd, rfl⟩⟩; refine ⟨_, rfl, ?_⟩) | (go_at_call 31; (with_reducible refine (spec_PairsOk.calls k _ _ t578 false _ ?side1 ?side2 A14.out).mono ?_); (case side1 => exact kc_ (Kd.R_reads' HO581.out).2.2); (case side2 => exact (Kd.R_reads' HO581.out).2.1); rintro e w25 ⟨rfl, hb⟩; have n0_ := Aside0.mk (Kd.R_below (kr_ HO581.out) hb); have n1_ := Aside0.mk (Kd.R_below (kr_ HO583.out) hb); have n2_ := Aside0.mk (Kd.R_below (kr_ HO586.out) hb); have n3_ := Aside0.mk (Kd.R_below (kr_ HO589.out) hb); have n4_ := Aside0.mk (below_step (be_ HB.out) hb); clear HO581; clear HO583; clear HO586; clear HO589; clear HB; have HO581 := n0_; have HO583 := n1_; have HO586 := n2_; have HO589 := n3_; have HB := n4_; clear n0_ n1_ n2_ n3_ n4_; (try clear hb); (try clear hb2); (try clear hk); (try clear hi)))
         go_meet
         case rel => exact ⟨_, (true), (by first | rfl | (simp; done) | (simp [*]; done)), H', ⟨by first | omega | exact Nat.le_refl _⟩, ⟨by (with_reducible repeat (first | apply Kd.R_alloc | apply Kd.R_drewN | apply Kd.R_drew)); exact Kd.R_mono HO581.out (fun _ hk => ⟨hk.1.1, hk.1.2⟩)⟩, ⟨by (with_reducible repeat (first | apply Kd.R_alloc | apply Kd.R_drewN | apply Kd.R_drew)); exact Kd.R_mono HO583.out (fun _ hk => ⟨hk.1.1, hk.1.2⟩)⟩, ⟨by (with_reducible repeat (first | apply Kd.R_alloc | apply Kd.R_drewN | apply Kd.R_drew)); exact Kd.R_mono HO586.out (fun _ hk => ⟨hk.1.1.2, hk.1.2⟩)⟩, ⟨be_ HB.out⟩⟩
     · replace c13 := Bool.eq_false_iff.mpr c13
       subst c13
       have H1 : (laws_FnUnion.j0 k t578 t579 t584 true) = some r := by rw [if_neg (show ¬ (false = true) by decide)] at H; exact H
       clear H
       have H := H1
       clear H1
       have H' := Aside0.mk H
       clear H
       go_wp2_with (first | ((with_reducible refine gate_callee (f := 27) rfl ?_); refine goesL_ (some 22) rfl rfl Try.func27 (by kernel_rfl) rfl #[.slice Ao8 t578.length co8, .slice Ao9 t579.length co9] rfl al_ ?_; (with_reducible refine (spec_UnionOf.calls k _ _ t578 _ _ t579 t587 _ ?side1 ?side2 ?side3 ?side4 A11.out).mono ?_); (case side1 => exact kc_ (Kd.R_reads' HO581.out).2.2); (case side2 => exact (Kd.R_reads' HO581.out).2.1); (case side3 => exact kc_ (Kd.R_reads' HO583.out).2.2); (case side4 => exact (Kd.R_reads' HO583.out).2.1); rintro e w26 ⟨v588, rfl, ho0, hb⟩; refine ⟨_, rfl, ?_⟩; have n0_ := Aside0.mk (Kd.R_elder' (kr_ HO581.out) (Kd.R_base ho0) hb); have n1_ := Aside0.mk (Kd.R_elder' (kr_ HO583.out) (Kd.R_base ho0) hb); have n2_ := Aside0.mk (Kd.R_elder' (kr_ HO586.out) (Kd.R_base ho0) hb); have n3_ := Aside0.mk (Kd.R_lower (Kd.R_new' (Kd.R_new' (Kd.R_new' ho0 (Kd.R_lt (kr_ HO581.out))) (Kd.R_lt (kr_ HO583.out))) (Kd.R_lt (kr_ HO586.out))) (below_size (be_ HB.out))); have n4_ := Aside0.mk (below_step (be_ HB.out) hb); clear HO581; clear HO583; clear HO586; clear HB; have HO581 := n0_; have HO583 := n1_; have HO586 := n2_; have HO589 := n3_; have HB := n4_; clear n0_ n1_ n2_ n3_ n4_; (try clear hb); (try clear hb2); (try clear hk); (try clear hi); (try clear ho0); obtain ⟨Ao27, co27, eo27⟩ := Kd.R_slice HO586.out; subst eo27; obtain ⟨Ao28, co28, eo28⟩ := Kd.R_slice HO589.out; subst eo28) | ((with_reducible refine gate_callee (f := 30) rfl ?_); refine goesL_ (some 23) rfl rfl Try.func30 (by kernel_rfl) rfl #[.slice Ao27 t584.length co27, .slice Ao28 t587.length co28] rfl al_ ?_; (with_reducible refine (laws_samePairs.calls k _ _ t584 _ _ t587 false _ ?side1 ?side2 ?side3 ?side4 A12.out).mono ?_); (case side1 => exact kc_ (Kd.R_reads' HO586.out).2.2); (case side2 => exact (Kd.R_reads' HO586.out).2.1); (case side3 => exact kc_ (Kd.R_reads' HO589.out).2.2); (case side4 => exact (Kd.R_reads' HO589.out).2.1); rintro e w' ⟨rfl, ⟨nd, rfl⟩⟩; refine ⟨_, rfl, ?_⟩))
       go_meet
       case rel => exact ⟨_, (true), (by first | rfl | (simp; done) | (simp [*]; done)), H', ⟨by first | omega | exact Nat.le_refl _⟩, ⟨by (with_reducible repeat (first | apply Kd.R_alloc | apply Kd.R_drewN | apply Kd.R_drew)); exact Kd.R_mono HO581.out (fun _ hk => ⟨hk.1.1, hk.1.2⟩)⟩, ⟨by (with_reducible repeat (first | apply Kd.R_alloc | apply Kd.R_drewN | apply Kd.R_drew)); exact Kd.R_mono HO583.out (fun _ hk => ⟨hk.1.1, hk.1.2⟩)⟩, ⟨by (with_reducible repeat (first | apply Kd.R_alloc | apply Kd.R_drewN | apply Kd.R_drew)); exact Kd.R_mono HO586.out (fun _ hk => ⟨hk.1.1.2, hk.1.2⟩)⟩, ⟨be_ HB.out⟩⟩
    case rest =>
     clear HC6
     try clear c1
     try clear c2
     try clear p2
     try clear c3
     try clear c7
     try clear c13
     try clear c15
     try clear c17
     try clear c27
     try clear c28
     obtain ⟨kq, x34_5, rfl, HA, HJ5, HO_3, HO_4, HO_5, HB⟩ := hcut
     cases kq with
     | zero => exact absurd HA.out (by simp [laws_FnUnion.j0])
     | succ kj5 =>
      have H := HA.out
      clear HA
      simp only [laws_FnUnion.j0] at H
      by_cases c29 : x34_5 = true
      · subst c29
        have H1 : ((spec_UnionOf.f kj5 t578 t579).bind fun t593 => ((laws_samePairs.f kj5 t584 t593).bind fun t596 => (some t596))) = some r := by rw [if_pos rfl] at H; exact H
        clear H
        have H := H1
        clear H1
        replace H := Option.bind_eq_some_iff.mp H
        obtain ⟨t593, A300, H⟩ := H
        have A30 := Aside0.mk A300
        clear A300
        replace H := Option.bind_eq_some_iff.mp H
        obtain ⟨t596, A310, H⟩ := H
        have A31 := Aside0.mk A310
        clear A310
        obtain rfl := Option.some.inj H
        go_wp2_with (first | ((with_reducible refine gate_callee (f := 27) rfl ?_); refine goesL_ (some 38) rfl rfl Try.func27 (by kernel_rfl) rfl #[.slice Ao8 t578.length co8, .slice Ao9 t579.length co9] rfl al_ ?_; (with_reducible refine (spec_UnionOf.calls kj5 _ _ t578 _ _ t579 t593 _ ?side1 ?side2 ?side3 ?side4 A30.out).mono ?_); (case side1 => exact kc_ (Kd.R_reads' HO_3.out).2.2); (case side2 => exact (Kd.R_reads' HO_3.out).2.1); (case side3 => exact kc_ (Kd.R_reads' HO_4.out).2.2); (case side4 => exact (Kd.R_reads' HO_4.out).2.1); rintro e w32 ⟨v594, rfl, ho0, hb⟩; refine ⟨_, rfl, ?_⟩; have n0_ := Aside0.mk (Kd.R_elder' (kr_ HO_3.out) (Kd.R_base ho0) hb); have n1_ := Aside0.mk (Kd.R_elder' (kr_ HO_4.out) (Kd.R_base ho0) hb); have n2_ := Aside0.mk (Kd.R_elder' (kr_ HO_5.out) (Kd.R_base ho0) hb); have n3_ := Aside0.mk (Kd.R_lower (Kd.R_new' (Kd.R_new' (Kd.R_new' ho0 (Kd.R_lt (kr_ HO_3.out))) (Kd.R_lt (kr_ HO_4.out))) (Kd.R_lt (kr_ HO_5.out))) (below_size (be_ HB.out))); have n4_ := Aside0.mk (below_step (be_ HB.out) hb); clear HO_3; clear HO_4; clear HO_5; clear HB; have HO_3 := n0_; have HO_4 := n1_; have HO_5 := n2_; have HO595 := n3_; have HB := n4_; clear n0_ n1_ n2_ n3_ n4_; (try clear hb); (try clear hb2); (try clear hk); (try clear hi); (try clear ho0); obtain ⟨Ao33, co33, eo33⟩ := Kd.R_slice HO_5.out; subst eo33; obtain ⟨Ao34, co34, eo34⟩ := Kd.R_slice HO595.out; subst eo34) | ((with_reducible refine gate_callee (f := 30) rfl ?_); refine goesL_ (some 39) rfl rfl Try.func30 (by kernel_rfl) rfl #[.slice Ao33 t584.length co33, .slice Ao34 t593.length co34] rfl al_ ?_; (with_reducible refine (laws_samePairs.calls kj5 _ _ t584 _ _ t593 t596 _ ?side1 ?side2 ?side3 ?side4 A31.out).mono ?_); (case side1 => exact kc_ (Kd.R_reads' HO_5.out).2.2); (case side2 => exact (Kd.R_reads' HO_5.out).2.1); (case side3 => exact kc_ (Kd.R_reads' HO595.out).2.2); (case side4 => exact (Kd.R_reads' HO595.out).2.1); rintro e w' ⟨rfl, ⟨nd, rfl⟩⟩; refine ⟨_, rfl, ?_⟩))
        go_ret
        exact ⟨by first | rfl | (simp [errW_none, errW_some] <;> rfl) | (simp [*, errW_none, errW_some] <;> rfl), be_ HB.out⟩
      · replace c29 := Bool.eq_false_iff.mpr c29
        subst c29
        have H1 : (laws_FnUnion.l0 kj5 t578 t579 t584 0) = some r := by rw [if_neg (show ¬ (false = true) by decide)] at H; exact H
        clear H
        have H := H1
        clear H1
        have H' := Aside0.mk H
        clear H
        go_wp2
        go_loopg [6] kj5 (fun kq v6 w' => ∃ (x6_2 : Int), v6 = .int .i64 x6_2 ∧ Aside0 (laws_FnUnion.l0 kq t578 t579 t584 x6_2 = some r) ∧ Aside0 (kq ≤ kj5) ∧ Aside0 (Kd.R k53 53 w' w.heap.size (fun k_ => some k_ ≠ ((.slice Ao9 t579.length co9) : Value).ownBlock ∧ some k_ ≠ (v585 : Value).ownBlock) (.slice Ao8 t578.length co8) t578) ∧ Aside0 (Kd.R k53 53 w' w.heap.size (fun k_ => some k_ ≠ ((.slice Ao8 t578.length co8) : Value).ownBlock ∧ some k_ ≠ (v585 : Value).ownBlock) (.slice Ao9 t579.length co9) t579) ∧ Aside0 (Kd.R k53 53 w' w.heap.size (fun k_ => some k_ ≠ ((.slice Ao8 t578.length co8) : Value).ownBlock ∧ some k_ ≠ ((.slice Ao9 t579.length co9) : Value).ownBlock) v585 t584) ∧ Aside0 (Below w.heap.size w w'))
        case atStart => exact ⟨(0), (by first | rfl | (simp; done) | (simp [*]; done)), H', ⟨Nat.le_refl _⟩, ⟨by (with_reducible repeat (first | apply Kd.R_alloc | apply Kd.R_drewN | apply Kd.R_drew)); exact HO_3.out⟩, ⟨by (with_reducible repeat (first | apply Kd.R_alloc | apply Kd.R_drewN | apply Kd.R_drew)); exact HO_4.out⟩, ⟨by (with_reducible repeat (first | apply Kd.R_alloc | apply Kd.R_drewN | apply Kd.R_drew)); exact HO_5.out⟩, ⟨be_ HB.out⟩⟩
        case round =>
         clear H'
         try clear c1
         try clear c2
         try clear p2
         try clear c3
         try clear c7
         try clear c13
         try clear c15
         try clear c17
         try clear c27
         try clear c28
         try clear c29
         try clear c30
         try clear p2
         obtain ⟨x6_2, rfl, HA, HK2, HO_3, HO_4, HO_5, HB⟩ := hrel
         cases gk with
         | zero => exact absurd HA.out (by simp [laws_FnUnion.l0])
         | succ k2 =>
          have H := HA.out
          clear HA
          simp only [laws_FnUnion.l0] at H
          by_cases c35 : x6_2 < (t579.length : Int)
          · rw [if_pos c35] at H
            have c35b0 : decide (x6_2 < (t579.length : Int)) = true := decide_eq_true c35
            clear c35
            by_cases c36 : 0 ≤ x6_2
            rotate_left
            · rw [if_neg c36] at H; exact absurd H (by simp)
            rw [if_pos c36] at H
            have c36b0 : decide (0 ≤ x6_2) = true := decide_eq_true c36
            clear c36
            replace H := Option.bind_eq_some_iff.mp H
            obtain ⟨⟨t598, t599⟩, A370, H⟩ := H; try dsimp only at H
            have A37 := Aside0.mk A370
            clear A370
            by_cases c38 : t599 = true
            · subst c38
              have H1 : (if t598.toList = ((rd_T53 t579 x6_2).f1).toList then (laws_FnUnion.l0 k2 t578 t579 t584 (wrap64 (x6_2 + 1))) else (some false)) = some r := by rw [if_pos rfl] at H; exact H
              clear H
              have H := H1
              clear H1
              by_cases c39 : t598.toList = ((rd_T53 t579 x6_2).f1).toList
              · rw [if_pos c39] at H
                have c39b0 : (t598.toList == ((rd_T53 t579 x6_2).f1).toList) = true := beq_iff_eq.mpr c39
                have c39b1 : (t598.toList != ((rd_T53 t579 x6_2).f1).toList) = false := bne_eq_false_iff_eq.mpr c39
                clear c39
                have H' := Aside0.mk H
                clear H
                have p597 : 0 ≤ (x6_2 : Int) := of_decide_eq_true (by first | (with_reducible assumption) | assumption)
                have q597 : x6_2 < (t579.length : Int) := of_decide_eq_true (by first | (with_reducible assumption) | assumption)
                obtain ⟨ad597, e597, hx597_0, hx597_1⟩ := at_T53 (Kd.R_reads' HO_4.out).2.2 x6_2 p597 q597
                cases e597
                replace p597 := eq_true p597
                replace q597 := eq_true q597
                obtain ⟨Ao40, co40, eo40⟩ := Kd.R_slice HO_5.out
                subst eo40
                go_wp2_with (first | ((with_reducible refine gate_callee (f := 32) rfl ?_); refine goesL_ (some 53) rfl rfl Try.func32 (by kernel_rfl) rfl #[.slice Ao40 t584.length co40, .string ((rd_T53 t579 x6_2).f0)] rfl al_ ?_; (with_reducible refine (impl_GetKey.calls _ _ t584 ((rd_T53 t579 x6_2).f0) t598 true _ ?side1 ?side2 A37.out).mono ?_); (case side1 => exact kc_ (Kd.R_reads' HO_5.out).2.2); (case side2 => exact (Kd.R_reads' HO_5.out).2.1); rintro e w41 ⟨rfl, hb⟩; refine ⟨_, rfl, ?_⟩; have n0_ := Aside0.mk (Kd.R_below (kr_ HO_3.out) hb); have n1_ := Aside0.mk (Kd.R_below (kr_ HO_4.out) hb); have n2_ := Aside0.mk (Kd.R_below (kr_ HO_5.out) hb); have n3_ := Aside0.mk (below_step (be_ HB.out) hb); clear HO_3; clear HO_4; clear HO_5; clear HB; have HO_3 := n0_; have HO_4 := n1_; have HO_5 := n2_; have HB := n3_; clear n0_ n1_ n2_ n3_; (try clear hb); (try clear hb2); (try clear hk); (try clear hi); have p600 : 0 ≤ (x6_2 : Int) := of_decide_eq_true (by first | (with_reducible assumption) | assumption); have q600 : x6_2 < (t579.length : Int) := of_decide_eq_true (by first | (with_reducible assumption) | assumption); obtain ⟨ad600, e600, hx600_0, hx600_1⟩ := at_T53 (Kd.R_reads' HO_4.out).2.2 x6_2 p600 q600; obtain rfl : ad597 = ad600 := (by injection e600); replace p600 := eq_true p600; replace q600 := eq_true q600))
                go_roundg k2
                case measure => have := HJ5.out; have := HK2.out; omega
                case rel => exact ⟨(wrap64 (x6_2 + 1)), (by first | rfl | (simp; done) | (simp [*]; done)), H', ⟨by have := HJ5.out; have := HK2.out; omega⟩, ⟨by (with_reducible repeat (first | apply Kd.R_alloc | apply Kd.R_drewN | apply Kd.R_drew)); exact HO_3.out⟩, ⟨by (with_reducible repeat (first | apply Kd.R_alloc | apply Kd.R_drewN | apply Kd.R_drew)); exact HO_4.out⟩, ⟨by (with_reducible repeat (first | apply Kd.R_alloc | apply Kd.R_drewN | apply Kd.R_drew)); exact HO_5.out⟩, ⟨be_ HB.out⟩⟩
              · rw [if_neg c39] at H
                have c39b0 : (t598.toList == ((rd_T53 t579 x6_2).f1).toList) = false := beq_eq_false_iff_ne.mpr c39
                have c39b1 : (t598.toList != ((rd_T53 t579 x6_2).f1).toList) = true := bne_iff_ne.mpr c39
                obtain rfl := Option.some.inj H
                have p597 : 0 ≤ (x6_2 : Int) := of_decide_eq_true (by first | (with_reducible assumption) | assumption)
                have q597 : x6_2 < (t579.length : Int) := of_decide_eq_true (by first | (with_reducible assumption) | assumption)
                obtain ⟨ad597, e597, hx597_0, hx597_1⟩ := at_T53 (Kd.R_reads' HO_4.out).2.2 x6_2 p597 q597
                cases e597
                replace p597 := eq_true p597
                replace q597 := eq_true q597
                obtain ⟨Ao42, co42, eo42⟩ := Kd.R_slice HO_5.out
                subst eo42
                go_wp2_with (first | ((with_reducible refine gate_callee (f := 32) rfl ?_); refine goesL_ (some 53) rfl rfl Try.func32 (by kernel_rfl) rfl #[.slice Ao42 t584.length co42, .string ((rd_T53 t579 x6_2).f0)] rfl al_ ?_; (with_reducible refine (impl_GetKey.calls _ _ t584 ((rd_T53 t579 x6_2).f0) t598 true _ ?side1 ?side2 A37.out).mono ?_); (case side1 => exact kc_ (Kd.R_reads' HO_5.out).2.2); (case side2 => exact (Kd.R_reads' HO_5.out).2.1); rintro e w43 ⟨rfl, hb⟩; refine ⟨_, rfl, ?_⟩; have n0_ := Aside0.mk (Kd.R_below (kr_ HO_3.out) hb); have n1_ := Aside0.mk (Kd.R_below (kr_ HO_4.out) hb); have n2_ := Aside0.mk (Kd.R_below (kr_ HO_5.out) hb); have n3_ := Aside0.mk (below_step (be_ HB.out) hb); clear HO_3; clear HO_4; clear HO_5; clear HB; have HO_3 := n0_; have HO_4 := n1_; have HO_5 := n2_; have HB := n3_; clear n0_ n1_ n2_ n3_; (try clear hb); (try clear hb2); (try clear hk); (try clear hi); have p600 : 0 ≤ (x6_2 : Int) := of_decide_eq_true (by first | (with_reducible assumption) | assumption); have q600 : x6_2 < (t579.length : Int) := of_decide_eq_true (by first | (with_reducible assumption) | assumption); obtain ⟨ad600, e600, hx600_0, hx600_1⟩ := at_T53 (Kd.R_reads' HO_4.out).2.2 x6_2 p600 q600; obtain rfl : ad597 = ad600 := (by injection e600); replace p600 := eq_true p600; replace q600 := eq_true q600))
                go_ret
                exact ⟨by first | rfl | (simp [errW_none, errW_some] <;> rfl) | (simp [*, errW_none, errW_some] <;> rfl), be_ HB.out⟩
            · replace c38 := Bool.eq_false_iff.mpr c38
              subst c38
              have H1 : (some false) = some r := by rw [if_neg (show ¬ (false = true) by decide)] at H; exact H
              clear H
              have H := H1
              clear H1
              obtain rfl := Option.some.inj H
              have p597 : 0 ≤ (x6_2 : Int) := of_decide_eq_true (by first | (with_reducible assumption) | assumption)
              have q597 : x6_2 < (t579.length : Int) := of_decide_eq_true (by first | (with_reducible assumption) | assumption)
              obtain ⟨ad597, e597, hx597_0, hx597_1⟩ := at_T53 (Kd.R_reads' HO_4.out).2.2 x6_2 p597 q597
              cases e597
              replace p597 := eq_true p597
              replace q597 := eq_true q597
              obtain ⟨Ao44, co44, eo44⟩ := Kd.R_slice HO_5.out
              subst eo44
              go_wp2_with (first | ((with_reducible refine gate_callee (f := 32) rfl ?_); refine goesL_ (some 53) rfl rfl Try.func32 (by kernel_rfl) rfl #[.slice Ao44 t584.length co44, .string ((rd_T53 t579 x6_2).f0)] rfl al_ ?_; (with_reducible refine (impl_GetKey.calls _ _ t584 ((rd_T53 t579 x6_2).f0) t598 false _ ?side1 ?side2 A37.out).mono ?_); (case side1 => exact kc_ (Kd.R_reads' HO_5.out).2.2); (case side2 => exact (Kd.R_reads' HO_5.out).2.1); rintro e w45 ⟨rfl, hb⟩; refine ⟨_, rfl, ?_⟩; have n0_ := Aside0.mk (Kd.R_below (kr_ HO_3.out) hb); have n1_ := Aside0.mk (Kd.R_below (kr_ HO_4.out) hb); have n2_ := Aside0.mk (Kd.R_below (kr_ HO_5.out) hb); have n3_ := Aside0.mk (below_step (be_ HB.out) hb); clear HO_3; clear HO_4; clear HO_5; clear HB; have HO_3 := n0_; have HO_4 := n1_; have HO_5 := n2_; have HB := n3_; clear n0_ n1_ n2_ n3_; (try clear hb); (try clear hb2); (try clear hk); (try clear hi)))
              go_ret
              exact ⟨by first | rfl | (simp [errW_none, errW_some] <;> rfl) | (simp [*, errW_none, errW_some] <;> rfl), be_ HB.out⟩
          · rw [if_neg c35] at H
            have c35b0 : decide (x6_2 < (t579.length : Int)) = false := decide_eq_false c35
            clear c35
            replace H := Option.bind_eq_some_iff.mp H
            obtain ⟨t601, A460, H⟩ := H
            have A46 := Aside0.mk A460
            clear A460
            replace H := Option.bind_eq_some_iff.mp H
            obtain ⟨t604, A470, H⟩ := H
            have A47 := Aside0.mk A470
            clear A470
            by_cases c48 : t604 = true
            · subst c48
              have H1 : (if (t584.length : Int) ≥ (t578.length : Int) then (if (t584.length : Int) ≤ (wrap64 ((t578.length : Int) + (t579.length : Int))) then ((impl_UnionOf.f k2 t578 (([] : List (S53)))).bind fun t608 => ((impl_UnionOf.f k2 t608 t579).bind fun t611 => ((laws_samePairs.f k2 t611 t584).bind fun t614 => (some t614)))) else (some false)) else (some false)) = some r := by rw [if_pos rfl] at H; exact H
              clear H
              have H := H1
              clear H1
              by_cases c49 : (t584.length : Int) ≥ (t578.length : Int)
              · rw [if_pos c49] at H
                have c49b0 : decide ((t578.length : Int) ≤ (t584.length : Int)) = true := decide_eq_true c49
                have c49b1 : decide (t578.length ≤ t584.length) = true := decide_eq_true (Int.ofNat_le.mp c49)
                clear c49
                by_cases c50 : (t584.length : Int) ≤ (wrap64 ((t578.length : Int) + (t579.length : Int)))
                · rw [if_pos c50] at H
                  have c50b0 : decide ((t584.length : Int) ≤ (wrap64 ((t578.length : Int) + (t579.length : Int)))) = true := decide_eq_true c50
                  clear c50
                  obtain ⟨y605, hy605⟩ : ∃ y_ : List (S53), y_ = (([] : List (S53))) := ⟨_, rfl⟩
                  replace H : ((impl_UnionOf.f k2 t578 y605).bind fun t608 => ((impl_UnionOf.f k2 t608 t579).bind fun t611 => ((laws_samePairs.f k2 t611 t584).bind fun t614 => (some t614)))) = some r := by first | (rw [hy605]; with_reducible exact H) | (have H2_ := (Option.bind_some _ _).symm.trans H; rw [hy605]; with_reducible exact H2_) | (have H2_ := (Option.bind_some _ _).symm.trans H; with_reducible exact H2_) | with_reducible exact H | (rw [hy605]; exact H) | exact H
                  have Ny605 := Aside0.mk hy605
                  clear hy605
                  replace H := Option.bind_eq_some_iff.mp H
                  obtain ⟨t608, A510, H⟩ := H
                  have A51 := Aside0.mk A510
                  clear A510
                  replace H := Option.bind_eq_some_iff.mp H
                  obtain ⟨t611, A520, H⟩ := H
                  have A52 := Aside0.mk A520
                  clear A520
                  replace H := Option.bind_eq_some_iff.mp H
                  obtain ⟨t614, A530, H⟩ := H
                  have A53 := Aside0.mk A530
                  clear A530
                  obtain rfl := Option.some.inj H
                  obtain ⟨Ao54, co54, eo54⟩ := Kd.R_slice HO_5.out
                  subst eo54
                  go_wp2_with (first | ((with_reducible refine gate_callee (f := 28) rfl ?_); refine goesL_ (some 69) rfl rfl Try.func28 (by kernel_rfl) rfl #[.slice Ao54 t584.length co54, .slice Ao9 t579.length co9] rfl al_ ?_; (with_reducible refine (impl_UnionOf.calls k2 _ _ t584 _ _ t579 t601 _ ?side1 ?side2 ?side3 ?side4 A46.out).mono ?_); (case side1 => exact kc_ (Kd.R_reads' HO_5.out).2.2); (case side2 => exact (Kd.R_reads' HO_5.out).2.1); (case side3 => exact kc_ (Kd.R_reads' HO_4.out).2.2); (case side4 => exact (Kd.R_reads' HO_4.out).2.1); rintro e w55 ⟨v602, rfl, ho0, hb⟩; refine ⟨_, rfl, ?_⟩; have n0_ := Aside0.mk (Kd.R_elder' (kr_ HO_3.out) (Kd.R_base ho0) hb); have n1_ := Aside0.mk (Kd.R_elder' (kr_ HO_4.out) (Kd.R_base ho0) hb); have n2_ := Aside0.mk (Kd.R_elder' (kr_ HO_5.out) (Kd.R_base ho0) hb); have n3_ := Aside0.mk (Kd.R_lower (Kd.R_new' (Kd.R_new' (Kd.R_new' ho0 (Kd.R_lt (kr_ HO_3.out))) (Kd.R_lt (kr_ HO_4.out))) (Kd.R_lt (kr_ HO_5.out))) (below_size (be_ HB.out))); have n4_ := Aside0.mk (below_step (be_ HB.out) hb); clear HO_3; clear HO_4; clear HO_5; clear HB; have HO_3 := n0_; have HO_4 := n1_; have HO_5 := n2_; have HO603 := n3_; have HB := n4_; clear n0_ n1_ n2_ n3_ n4_; (try clear hb); (try clear hb2); (try clear hk); (try clear hi); (try clear ho0); obtain ⟨Ao56, co56, eo56⟩ := Kd.R_slice HO603.out; subst eo56) | ((with_reducible refine gate_callee (f := 30) rfl ?_); refine goesL_ (some 71) rfl rfl Try.func30 (by kernel_rfl) rfl #[.slice Ao56 t601.length co56, .slice Ao54 t584.length co54] rfl al_ ?_; (with_reducible refine (laws_samePairs.calls k2 _ _ t601 _ _ t584 true _ ?side1 ?side2 ?side3 ?side4 A47.out).mono ?_); (case side1 => exact kc_ (Kd.R_reads' HO603.out).2.2); (case side2 => exact (Kd.R_reads' HO603.out).2.1); (case side3 => exact kc_ (Kd.R_reads' HO_5.out).2.2); (case side4 => exact (Kd.R_reads' HO_5.out).2.1); rintro e w' ⟨rfl, ⟨nd, rfl⟩⟩; refine ⟨_, rfl, ?_⟩) | ((with_reducible refine gate_dst (N := 91) rfl ?_); (try (refine gate_guard (by rfl) ?_; dsimp only)); refine Kd.R_lit k53 _ 53 ?hg (N := 91) ?hd (xs := ([] : List (S53))) (inner := []) (ok := fun _ => True) (okp := fun _ => True) ?hr ?hp (fun _ hk => hk) trivial (Below.refl _ _) (Nat.le_refl _) (by simp) ?_; (case hd => rfl); (case hg => rfl); (case hr => first | (go_simp; done) | (go_simp; rfl)); (case hp => exact (Reps.none _ _)); intro v606 w57 ho58 hb hg_ hnew_; clear hg_ hnew_; (first | rw [← Ny605.out] at ho58 | (simp only [Int.reduceToNat] at ho58; rw [← Ny605.out] at ho58)); have n0_ := Aside0.mk (Kd.R_elder' (kr_ HO_3.out) (Kd.R_base ho58) hb); have n1_ := Aside0.mk (Kd.R_elder' (kr_ HO_4.out) (Kd.R_base ho58) hb); have n2_ := Aside0.mk (Kd.R_elder' (kr_ HO_5.out) (Kd.R_base ho58) hb); have n3_ := Aside0.mk (Kd.R_elder' (kr_ HO603.out) (Kd.R_base ho58) hb); have n4_ := Aside0.mk (Kd.R_lower (Kd.R_new' (Kd.R_new' (Kd.R_new' (Kd.R_new' ho58 (Kd.R_lt (kr_ HO_3.out))) (Kd.R_lt (kr_ HO_4.out))) (Kd.R_lt (kr_ HO_5.out))) (Kd.R_lt (kr_ HO603.out))) (below_size (be_ HB.out))); have n5_ := Aside0.mk (below_step (be_ HB.out) hb); clear HO_3; clear HO_4; clear HO_5; clear HO603; clear HB; have HO_3 := n0_; have HO_4 := n1_; have HO_5 := n2_; have HO603 := n3_; have HO607 := n4_; have HB := n5_; clear n0_ n1_ n2_ n3_ n4_ n5_; clear hb ho58; obtain ⟨Ao59, co59, eo59⟩ := Kd.R_slice HO607.out; subst eo59) | (go_at_call 28; (with_reducible refine (impl_UnionOf.calls k2 _ _ t578 _ _ y605 t608 _ ?side1 ?side2 ?side3 ?side4 A51.out).mono ?_); (case side1 => exact kc_ (Kd.R_reads' HO_3.out).2.2); (case side2 => exact (Kd.R_reads' HO_3.out).2.1); (case side3 => exact kc_ (Kd.R_reads' HO607.out).2.2); (case side4 => exact (Kd.R_reads' HO607.out).2.1); rintro e w60 ⟨v609, rfl, ho0, hb⟩; have n0_ := Aside0.mk (Kd.R_elder' (kr_ HO_3.out) (Kd.R_base ho0) hb); have n1_ := Aside0.mk (Kd.R_elder' (kr_ HO_4.out) (Kd.R_base ho0) hb); have n2_ := Aside0.mk (Kd.R_elder' (kr_ HO_5.out) (Kd.R_base ho0) hb); have n3_ := Aside0.mk (Kd.R_elder' (kr_ HO603.out) (Kd.R_base ho0) hb); have n4_ := Aside0.mk (Kd.R_elder' (kr_ HO607.out) (Kd.R_base ho0) hb); have n5_ := Aside0.mk (Kd.R_lower (Kd.R_new' (Kd.R_new' (Kd.R_new' (Kd.R_new' (Kd.R_new' ho0 (Kd.R_lt (kr_ HO_3.out))) (Kd.R_lt (kr_ HO_4.out))) (Kd.R_lt (kr_ HO_5.out))) (Kd.R_lt (kr_ HO603.out))) (Kd.R_lt (kr_ HO607.out))) (below_size (be_ HB.out))); have n6_ := Aside0.mk (below_step (be_ HB.out) hb); clear HO_3; clear HO_4; clear HO_5; clear HO603; clear HO607; clear HB; have HO_3 := n0_; have HO_4 := n1_; have HO_5 := n2_; have HO603 := n3_; have HO607 := n4_; have HO610 := n5_; have HB := n6_; clear n0_ n1_ n2_ n3_ n4_ n5_ n6_; (try clear hb); (try clear hb2); (try clear hk); (try clear hi); (try clear ho0); obtain ⟨Ao61, co61, eo61⟩ := Kd.R_slice HO610.out; subst eo61) | (go_at_call 28; (with_reducible refine (impl_UnionOf.calls k2 _ _ t608 _ _ t579 t611 _ ?side1 ?side2 ?side3 ?side4 A52.out).mono ?_); (case side1 => exact kc_ (Kd.R_reads' HO610.out).2.2); (case side2 => exact (Kd.R_reads' HO610.out).2.1); (case side3 => exact kc_ (Kd.R_reads' HO_4.out).2.2); (case side4 => exact (Kd.R_reads' HO_4.out).2.1); rintro e w62 ⟨v612, rfl, ho0, hb⟩; have n0_ := Aside0.mk (Kd.R_elder' (kr_ HO_3.out) (Kd.R_base ho0) hb); have n1_ := Aside0.mk (Kd.R_elder' (kr_ HO_4.out) (Kd.R_base ho0) hb); have n2_ := Aside0.mk (Kd.R_elder' (kr_ HO_5.out) (Kd.R_base ho0) hb); have n3_ := Aside0.mk (Kd.R_elder' (kr_ HO603.out) (Kd.R_base ho0) hb); have n4_ := Aside0.mk (Kd.R_elder' (kr_ HO607.out) (Kd.R_base ho0) hb); have n5_ := Aside0.mk (Kd.R_elder' (kr_ HO610.out) (Kd.R_base ho0) hb); have n6_ := Aside0.mk (Kd.R_lower (Kd.R_new' (Kd.R_new' (Kd.R_new' (Kd.R_new' (Kd.R_new' (Kd.R_new' ho0 (Kd.R_lt (kr_ HO_3.out))) (Kd.R_lt (kr_ HO_4.out))) (Kd.R_lt (kr_ HO_5.out))) (Kd.R_lt (kr_ HO603.out))) (Kd.R_lt (kr_ HO607.out))) (Kd.R_lt (kr_ HO610.out))) (below_size (be_ HB.out))); have n7_ := Aside0.mk (below_step (be_ HB.out) hb); clear HO_3; clear HO_4; clear HO_5; clear HO603; clear HO607; clear HO610; clear HB; have HO_3 := n0_; have HO_4 := n1_; have HO_5 := n2_; have HO603 := n3_; have HO607 := n4_; have HO610 := n5_; have HO613 := n6_; have HB := n7_; clear n0_ n1_ n2_ n3_ n4_ n5_ n6_ n7_; (try clear hb); (try clear hb2); (try clear hk); (try clear hi); (try clear ho0); obtain ⟨Ao63, co63, eo63⟩ := Kd.R_slice HO613.out; subst eo63) | (go_at_call 30; (with_reducible refine (laws_samePairs.calls k2 _ _ t611 _ _ t584 t614 _ ?side1 ?side2 ?side3 ?side4 A53.out).mono ?_); (case side1 => exact kc_ (Kd.R_reads' HO613.out).2.2); (case side2 => exact (Kd.R_reads' HO613.out).2.1); (case side3 => exact kc_ (Kd.R_reads' HO_5.out).2.2); (case side4 => exact (Kd.R_reads' HO_5.out).2.1); rintro e w' ⟨rfl, ⟨nd, rfl⟩⟩))
                  go_ret
                  exact ⟨by first | rfl | (simp [errW_none, errW_some] <;> rfl) | (simp [*, errW_none, errW_some] <;> rfl), be_ HB.out⟩
                · rw [if_neg c50] at H
                  have c50b0 : decide ((t584.length : Int) ≤ (wrap64 ((t578.length : Int) + (t579.length : Int)))) = false := decide_eq_false c50
                  clear c50
                  obtain rfl := Option.some.inj H
                  obtain ⟨Ao64, co64, eo64⟩ := Kd.R_slice HO_5.out
                  subst eo64
                  go_wp2_with (first | ((with_reducible refine gate_callee (f := 28) rfl ?_); refine goesL_ (some 69) rfl rfl Try.func28 (by kernel_rfl) rfl #[.slice Ao64 t584.length co64, .slice Ao9 t579.length co9] rfl al_ ?_; (with_reducible refine (impl_UnionOf.calls k2 _ _ t584 _ _ t579 t601 _ ?side1 ?side2 ?side3 ?side4 A46.out).mono ?_); (case side1 => exact kc_ (Kd.R_reads' HO_5.out).2.2); (case side2 => exact (Kd.R_reads' HO_5.out).2.1); (case side3 => exact kc_ (Kd.R_reads' HO_4.out).2.2); (case side4 => exact (Kd.R_reads' HO_4.out).2.1); rintro e w65 ⟨v602, rfl, ho0, hb⟩; refine ⟨_, rfl, ?_⟩; have n0_ := Aside0.mk (Kd.R_elder' (kr_ HO_3.out) (Kd.R_base ho0) hb); have n1_ := Aside0.mk (Kd.R_elder' (kr_ HO_4.out) (Kd.R_base ho0) hb); have n2_ := Aside0.mk (Kd.R_elder' (kr_ HO_5.out) (Kd.R_base ho0) hb); have n3_ := Aside0.mk (Kd.R_lower (Kd.R_new' (Kd.R_new' (Kd.R_new' ho0 (Kd.R_lt (kr_ HO_3.out))) (Kd.R_lt (kr_ HO_4.out))) (Kd.R_lt (kr_ HO_5.out))) (below_size (be_ HB.out))); have n4_ := Aside0.mk (below_step (be_ HB.out) hb); clear HO_3; clear HO_4; clear HO_5; clear HB; have HO_3 := n0_; have HO_4 := n1_; have HO_5 := n2_; have HO603 := n3_; have HB := n4_; clear n0_ n1_ n2_ n3_ n4_; (try clear hb); (try clear hb2); (try clear hk); (try clear hi); (try clear ho0); obtain ⟨Ao66, co66, eo66⟩ := Kd.R_slice HO603.out; subst eo66) | ((with_reducible refine gate_callee (f := 30) rfl ?_); refine goesL_ (some 71) rfl rfl Try.func30 (by kernel_rfl) rfl #[.slice Ao66 t601.length co66, .slice Ao64 t584.length co64] rfl al_ ?_; (with_reducible refine (laws_samePairs.calls k2 _ _ t601 _ _ t584 true _ ?side1 ?side2 ?side3 ?side4 A47.out).mono ?_); (case side1 => exact kc_ (Kd.R_reads' HO603.out).2.2); (case side2 => exact (Kd.R_reads' HO603.out).2.1); (case side3 => exact kc_ (Kd.R_reads' HO_5.out).2.2); (case side4 => exact (Kd.R_reads' HO_5.out).2.1); rintro e w' ⟨rfl, ⟨nd, rfl⟩⟩; refine ⟨_, rfl, ?_⟩))
                  go_ret
                  exact ⟨by first | rfl | (simp [errW_none, errW_some] <;> rfl) | (simp [*, errW_none, errW_some] <;> rfl), be_ HB.out⟩
              · rw [if_neg c49] at H
                have c49b0 : decide ((t578.length : Int) ≤ (t584.length : Int)) = false := decide_eq_false c49
                have c49b1 : decide (t578.length ≤ t584.length) = false := decide_eq_false (fun h => c49 (Int.ofNat_le.mpr h))
                clear c49
                obtain rfl := Option.some.inj H
                obtain ⟨Ao67, co67, eo67⟩ := Kd.R_slice HO_5.out
                subst eo67
                go_wp2_with (first | ((with_reducible refine gate_callee (f := 28) rfl ?_); refine goesL_ (some 69) rfl rfl Try.func28 (by kernel_rfl) rfl #[.slice Ao67 t584.length co67, .slice Ao9 t579.length co9] rfl al_ ?_; (with_reducible refine (impl_UnionOf.calls k2 _ _ t584 _ _ t579 t601 _ ?side1 ?side2 ?side3 ?side4 A46.out).mono ?_); (case side1 => exact kc_ (Kd.R_reads' HO_5.out).2.2); (case side2 => exact (Kd.R_reads' HO_5.out).2.1); (case side3 => exact kc_ (Kd.R_reads' HO_4.out).2.2); (case side4 => exact (Kd.R_reads' HO_4.out).2.1); rintro e w68 ⟨v602, rfl, ho0, hb⟩; refine ⟨_, rfl, ?_⟩; have n0_ := Aside0.mk (Kd.R_elder' (kr_ HO_3.out) (Kd.R_base ho0) hb); have n1_ := Aside0.mk (Kd.R_elder' (kr_ HO_4.out) (Kd.R_base ho0) hb); have n2_ := Aside0.mk (Kd.R_elder' (kr_ HO_5.out) (Kd.R_base ho0) hb); have n3_ := Aside0.mk (Kd.R_lower (Kd.R_new' (Kd.R_new' (Kd.R_new' ho0 (Kd.R_lt (kr_ HO_3.out))) (Kd.R_lt (kr_ HO_4.out))) (Kd.R_lt (kr_ HO_5.out))) (below_size (be_ HB.out))); have n4_ := Aside0.mk (below_step (be_ HB.out) hb); clear HO_3; clear HO_4; clear HO_5; clear HB; have HO_3 := n0_; have HO_4 := n1_; have HO_5 := n2_; have HO603 := n3_; have HB := n4_; clear n0_ n1_ n2_ n3_ n4_; (try clear hb); (try clear hb2); (try clear hk); (try clear hi); (try clear ho0); obtain ⟨Ao69, co69, eo69⟩ := Kd.R_slice HO603.out; subst eo69) | ((with_reducible refine gate_callee (f := 30) rfl ?_); refine goesL_ (some 71) rfl rfl Try.func30 (by kernel_rfl) rfl #[.slice Ao69 t601.length co69, .slice Ao67 t584.length co67] rfl al_ ?_; (with_reducible refine (laws_samePairs.calls k2 _ _ t601 _ _ t584 true _ ?side1 ?side2 ?side3 ?side4 A47.out).mono ?_); (case side1 => exact kc_ (Kd.R_reads' HO603.out).2.2); (case side2 => exact (Kd.R_reads' HO603.out).2.1); (case side3 => exact kc_ (Kd.R_reads' HO_5.out).2.2); (case side4 => exact (Kd.R_reads' HO_5.out).2.1); rintro e w' ⟨rfl, ⟨nd, rfl⟩⟩; refine ⟨_, rfl, ?_⟩))
                go_ret
                exact ⟨by first | rfl | (simp [errW_none, errW_some] <;> rfl) | (simp [*, errW_none, errW_some] <;> rfl), be_ HB.out⟩
            · replace c48 := Bool.eq_false_iff.mpr c48
              subst c48
              have H1 : (some false) = some r := by rw [if_neg (show ¬ (false = true) by decide)] at H; exact H
              clear H
              have H := H1
              clear H1
              obtain rfl := Option.some.inj H
              obtain ⟨Ao70, co70, eo70⟩ := Kd.R_slice HO_5.out
              subst eo70
              go_wp2_with (first | ((with_reducible refine gate_callee (f := 28) rfl ?_); refine goesL_ (some 69) rfl rfl Try.func28 (by kernel_rfl) rfl #[.slice Ao70 t584.length co70, .slice Ao9 t579.length co9] rfl al_ ?_; (with_reducible refine (impl_UnionOf.calls k2 _ _ t584 _ _ t579 t601 _ ?side1 ?side2 ?side3 ?side4 A46.out).mono ?_); (case side1 => exact kc_ (Kd.R_reads' HO_5.out).2.2); (case side2 => exact (Kd.R_reads' HO_5.out).2.1); (case side3 => exact kc_ (Kd.R_reads' HO_4.out).2.2); (case side4 => exact (Kd.R_reads' HO_4.out).2.1); rintro e w71 ⟨v602, rfl, ho0, hb⟩; refine ⟨_, rfl, ?_⟩; have n0_ := Aside0.mk (Kd.R_elder' (kr_ HO_3.out) (Kd.R_base ho0) hb); have n1_ := Aside0.mk (Kd.R_elder' (kr_ HO_4.out) (Kd.R_base ho0) hb); have n2_ := Aside0.mk (Kd.R_elder' (kr_ HO_5.out) (Kd.R_base ho0) hb); have n3_ := Aside0.mk (Kd.R_lower (Kd.R_new' (Kd.R_new' (Kd.R_new' ho0 (Kd.R_lt (kr_ HO_3.out))) (Kd.R_lt (kr_ HO_4.out))) (Kd.R_lt (kr_ HO_5.out))) (below_size (be_ HB.out))); have n4_ := Aside0.mk (below_step (be_ HB.out) hb); clear HO_3; clear HO_4; clear HO_5; clear HB; have HO_3 := n0_; have HO_4 := n1_; have HO_5 := n2_; have HO603 := n3_; have HB := n4_; clear n0_ n1_ n2_ n3_ n4_; (try clear hb); (try clear hb2); (try clear hk); (try clear hi); (try clear ho0); obtain ⟨Ao72, co72, eo72⟩ := Kd.R_slice HO603.out; subst eo72) | ((with_reducible refine gate_callee (f := 30) rfl ?_); refine goesL_ (some 71) rfl rfl Try.func30 (by kernel_rfl) rfl #[.slice Ao72 t601.length co72, .slice Ao70 t584.length co70] rfl al_ ?_; (with_reducible refine (laws_samePairs.calls k2 _ _ t601 _ _ t584 false _ ?side1 ?side2 ?side3 ?side4 A47.out).mono ?_); (case side1 => exact kc_ (Kd.R_reads' HO603.out).2.2); (case side2 => exact (Kd.R_reads' HO603.out).2.1); (case side3 => exact kc_ (Kd.R_reads' HO_5.out).2.2); (case side4 => exact (Kd.R_reads' HO_5.out).2.1); rintro e w' ⟨rfl, ⟨nd, rfl⟩⟩; refine ⟨_, rfl, ?_⟩))
              go_ret
              exact ⟨by first | rfl | (simp [errW_none, errW_some] <;> rfl) | (simp [*, errW_none, errW_some] <;> rfl), be_ HB.out⟩

end Go.Proofs.Ytamkjoflkkffhaa.P
