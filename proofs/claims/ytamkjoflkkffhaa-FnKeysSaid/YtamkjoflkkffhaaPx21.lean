-- Written by wip/xp/xp.py over the kit's print; Lean checks it.
import Derived.Test.YtamkjoflkkffhaaPx0
import Derived.Test.YtamkjoflkkffhaaPx7
import Derived.Test.YtamkjoflkkffhaaPx10
import Derived.Test.YtamkjoflkkffhaaPx13
import Derived.Test.YtamkjoflkkffhaaPx15
import Derived.Test.YtamkjoflkkffhaaPx16
import Derived.Test.YtamkjoflkkffhaaPx17
import Derived.Test.YtamkjoflkkffhaaPx18
import Derived.Test.YtamkjoflkkffhaaPx19
import Derived.Test.YtamkjoflkkffhaaPx20
namespace Go.Proofs.Ytamkjoflkkffhaa.P
open Go.RowKit Go.Proofs.YtamkjoflkkffhaaW.PrintWords Go.Proofs.YtamkjoflkkffhaaW.PrintLast Go.Proofs.YtamkjoflkkffhaaW.PrintMore
attribute [local go_sem] max2_int min2_int max_two min_two max_three min_three max_four min_four   -- for this text's walks alone
set_option linter.unusedVariables false
set_option linter.unusedSimpArgs false

/-! ###  laws_FnKeys: function 9 -/
mutual
def laws_FnKeys.j0 : Nat → List (S53) → ByteArray → List (S53) → List (S53) → Bool → Option (Bool)
  | 0, _, _, _, _, _ => none
  | k + 1, x3, x4, x6, x9, x62 => if x62 = true then (some false) else (laws_FnKeys.l0 k x3 x4 x6 x9 0)
def laws_FnKeys.l0 : Nat → List (S53) → ByteArray → List (S53) → List (S53) → Int → Option (Bool)
  | 0, _, _, _, _, _ => none
  | k + 1, x3, x4, x6, x9, x12 => if x12 < (x3.length : Int) then (if 0 ≤ x12 then ((impl_GetKey.f x3 ((rd_T53 x3 x12).f0)).bind fun bt758 => ((impl_GetKey.f x9 ((rd_T53 x3 x12).f0)).bind fun bt761 => (if ((rd_T53 x3 x12).f0).toList = x4.toList then (laws_FnKeys.l0 k x3 x4 x6 x9 (wrap64 (x12 + 1))) else (if bt758.2 = true then (if bt761.2 = true then (if bt758.1.toList = bt761.1.toList then (laws_FnKeys.l0 k x3 x4 x6 x9 (wrap64 (x12 + 1))) else (some false)) else (some false)) else (some false))))) else (none)) else ((spec_PairsOk.f k x3).bind fun t764 => (if t764 = true then ((spec_KeyOk.f k x4).bind fun t765 => (if t765 = true then (if (x3.length : Int) = 60 then (some true) else ((impl_PairsOk.f k x6).bind fun t766 => (if t766 = true then ((impl_PairsOk.f k x9).bind fun t767 => (some t767)) else (some false)))) else (some true))) else (some true)))
end
def laws_FnKeys.f (k : Nat) (l0 : List Int) : Option (Bool) := (laws_big.f l0).bind fun t737 => (if t737 = true then (some true) else ((spec_DrawPutKey.f k l0).bind fun bt738 => ((impl_PutKey.f bt738.1 bt738.2.1 bt738.2.2).bind fun t743 => ((impl_GetKey.f t743 bt738.2.1).bind fun bt746 => ((impl_DelKey.f t743 bt738.2.1).bind fun t748 => ((impl_GetKey.f t748 bt738.2.1).bind fun bt751 => (if bt746.2 = true then (if bt746.1.toList = bt738.2.2.toList then (if bt751.2 = true then (laws_FnKeys.j0 k bt738.1 bt738.2.1 t743 t748 true) else ((spec_PutKey.f k bt738.1 bt738.2.1 bt738.2.2).bind fun t753 => ((laws_samePairs.f k t743 t753).bind fun t756 => (laws_FnKeys.j0 k bt738.1 bt738.2.1 t743 t748 (!t756))))) else (laws_FnKeys.j0 k bt738.1 bt738.2.1 t743 t748 true)) else (laws_FnKeys.j0 k bt738.1 bt738.2.1 t743 t748 true))))))))
set_option maxHeartbeats 8000000 in
set_option maxRecDepth 100000 in
theorem laws_FnKeys.calls (k : Nat) (A0 : Option Addr) (c0 : Nat) (l0 : List Int) (r : Bool) (w : World) (hr0 : Kd.C (Kd.int .u8) w A0 l0.length l0) (hc0 : l0.length ≤ c0) (h : laws_FnKeys.f k l0 = some r) :
  Calls Try.prog 9 #[.slice A0 l0.length c0] w fun e w' => e = .returned (.bool r) ∧ Below w.heap.size w w' := by
  have HR0 := Aside0.mk hr0
  have HC0 := Aside0.mk hc0
  clear hr0 hc0
  have HB := Aside0.mk (Below.refl w.heap.size w)
  have H : ((laws_big.f l0).bind fun t737 => (if t737 = true then (some true) else ((spec_DrawPutKey.f k l0).bind fun bt738 => ((impl_PutKey.f bt738.1 bt738.2.1 bt738.2.2).bind fun t743 => ((impl_GetKey.f t743 bt738.2.1).bind fun bt746 => ((impl_DelKey.f t743 bt738.2.1).bind fun t748 => ((impl_GetKey.f t748 bt738.2.1).bind fun bt751 => (if bt746.2 = true then (if bt746.1.toList = bt738.2.2.toList then (if bt751.2 = true then (laws_FnKeys.j0 k bt738.1 bt738.2.1 t743 t748 true) else ((spec_PutKey.f k bt738.1 bt738.2.1 bt738.2.2).bind fun t753 => ((laws_samePairs.f k t743 t753).bind fun t756 => (laws_FnKeys.j0 k bt738.1 bt738.2.1 t743 t748 (!t756))))) else (laws_FnKeys.j0 k bt738.1 bt738.2.1 t743 t748 true)) else (laws_FnKeys.j0 k bt738.1 bt738.2.1 t743 t748 true))))))))) = some r := h
  clear h
  replace H := Option.bind_eq_some_iff.mp H
  obtain ⟨t737, A20, H⟩ := H
  have A2 := Aside0.mk A20
  clear A20
  by_cases c3 : t737 = true
  · subst c3
    have H1 : (some true) = some r := by rw [if_pos rfl] at H; exact H
    clear H
    have H := H1
    clear H1
    obtain rfl := Option.some.inj H
    go_enter Try.func9, Try.ntmps9
    go_wp2_with (first | ((with_reducible refine gate_callee (f := 17) rfl ?_); refine goesL_ (some 18) rfl rfl Try.func17 (by kernel_rfl) rfl #[.slice A0 l0.length c0] rfl al_ ?_; (with_reducible refine (laws_big.calls _ _ l0 true _ ?side1 ?side2 A2.out).mono ?_); (case side1 => exact kc_ HR0.out); (case side2 => exact HC0.out); rintro e w' ⟨rfl, ⟨nd, rfl⟩⟩; refine ⟨_, rfl, ?_⟩))
    go_ret
    exact ⟨by first | rfl | (simp [errW_none, errW_some] <;> rfl) | (simp [*, errW_none, errW_some] <;> rfl), be_ HB.out⟩
  · replace c3 := Bool.eq_false_iff.mpr c3
    subst c3
    have H1 : ((spec_DrawPutKey.f k l0).bind fun bt738 => ((impl_PutKey.f bt738.1 bt738.2.1 bt738.2.2).bind fun t743 => ((impl_GetKey.f t743 bt738.2.1).bind fun bt746 => ((impl_DelKey.f t743 bt738.2.1).bind fun t748 => ((impl_GetKey.f t748 bt738.2.1).bind fun bt751 => (if bt746.2 = true then (if bt746.1.toList = bt738.2.2.toList then (if bt751.2 = true then (laws_FnKeys.j0 k bt738.1 bt738.2.1 t743 t748 true) else ((spec_PutKey.f k bt738.1 bt738.2.1 bt738.2.2).bind fun t753 => ((laws_samePairs.f k t743 t753).bind fun t756 => (laws_FnKeys.j0 k bt738.1 bt738.2.1 t743 t748 (!t756))))) else (laws_FnKeys.j0 k bt738.1 bt738.2.1 t743 t748 true)) else (laws_FnKeys.j0 k bt738.1 bt738.2.1 t743 t748 true))))))) = some r := by rw [if_neg (show ¬ (false = true) by decide)] at H; exact H
    clear H
    have H := H1
    clear H1
    replace H := Option.bind_eq_some_iff.mp H
    obtain ⟨⟨t738, t739, t740⟩, A40, H⟩ := H; try dsimp only at H
    have A4 := Aside0.mk A40
    clear A40
    replace H := Option.bind_eq_some_iff.mp H
    obtain ⟨t743, A50, H⟩ := H
    have A5 := Aside0.mk A50
    clear A50
    replace H := Option.bind_eq_some_iff.mp H
    obtain ⟨⟨t746, t747⟩, A60, H⟩ := H; try dsimp only at H
    have A6 := Aside0.mk A60
    clear A60
    replace H := Option.bind_eq_some_iff.mp H
    obtain ⟨t748, A70, H⟩ := H
    have A7 := Aside0.mk A70
    clear A70
    replace H := Option.bind_eq_some_iff.mp H
    obtain ⟨⟨t751, t752⟩, A80, H⟩ := H; try dsimp only at H
    have A8 := Aside0.mk A80
    clear A80
    have HC9 := Aside0.mk H
    clear H
    go_enter Try.func9, Try.ntmps9
    go_upto_region 8 with (first | ((with_reducible refine gate_callee (f := 17) rfl ?_); refine goesL_ (some 18) rfl rfl Try.func17 (by kernel_rfl) rfl #[.slice A0 l0.length c0] rfl al_ ?_; (with_reducible refine (laws_big.calls _ _ l0 false _ ?side1 ?side2 A2.out).mono ?_); (case side1 => exact kc_ HR0.out); (case side2 => exact HC0.out); rintro e w' ⟨rfl, ⟨nd, rfl⟩⟩; refine ⟨_, rfl, ?_⟩) | ((with_reducible refine gate_callee (f := 41) rfl ?_); refine goesL_ (some 21) rfl rfl Try.func41 (by kernel_rfl) rfl #[.slice A0 l0.length c0] rfl al_ ?_; (with_reducible refine (spec_DrawPutKey.calls k _ _ l0 t738 t739 t740 _ ?side1 ?side2 A4.out).mono ?_); (case side1 => exact kc_ HR0.out); (case side2 => exact HC0.out); rintro e w10 ⟨v741, rfl, ho0, hb⟩; refine ⟨_, rfl, ?_⟩; have n0_ := Aside0.mk (Kd.R_lower ho0 (below_size (be_ HB.out))); have n1_ := Aside0.mk (below_step (be_ HB.out) hb); clear HB; have HO742 := n0_; have HB := n1_; clear n0_ n1_; (try clear hb); (try clear hb2); (try clear hk); (try clear hi); (try clear ho0); obtain ⟨Ao11, co11, eo11⟩ := Kd.R_slice HO742.out; subst eo11) | ((with_reducible refine gate_callee (f := 26) rfl ?_); refine goesL_ (some 28) rfl rfl Try.func26 (by kernel_rfl) rfl #[.slice Ao11 t738.length co11, .string t739, .string t740] rfl al_ ?_; (with_reducible refine (impl_PutKey.calls _ _ t738 t739 t740 t743 _ ?side1 ?side2 A5.out).mono ?_); (case side1 => exact kc_ (Kd.R_reads' HO742.out).2.2); (case side2 => exact (Kd.R_reads' HO742.out).2.1); rintro e w12 ⟨v744, rfl, ho0, hb⟩; refine ⟨_, rfl, ?_⟩; have n0_ := Aside0.mk (Kd.R_elder' (kr_ HO742.out) (Kd.R_base ho0) hb); have n1_ := Aside0.mk (Kd.R_lower (Kd.R_new' ho0 (Kd.R_lt (kr_ HO742.out))) (below_size (be_ HB.out))); have n2_ := Aside0.mk (below_step (be_ HB.out) hb); clear HO742; clear HB; have HO742 := n0_; have HO745 := n1_; have HB := n2_; clear n0_ n1_ n2_; (try clear hb); (try clear hb2); (try clear hk); (try clear hi); (try clear ho0); obtain ⟨Ao13, co13, eo13⟩ := Kd.R_slice HO745.out; subst eo13) | ((with_reducible refine gate_callee (f := 32) rfl ?_); refine goesL_ (some 32) rfl rfl Try.func32 (by kernel_rfl) rfl #[.slice Ao13 t743.length co13, .string t739] rfl al_ ?_; (with_reducible refine (impl_GetKey.calls _ _ t743 t739 t746 t747 _ ?side1 ?side2 A6.out).mono ?_); (case side1 => exact kc_ (Kd.R_reads' HO745.out).2.2); (case side2 => exact (Kd.R_reads' HO745.out).2.1); rintro e w14 ⟨rfl, hb⟩; refine ⟨_, rfl, ?_⟩; have n0_ := Aside0.mk (Kd.R_below (kr_ HO742.out) hb); have n1_ := Aside0.mk (Kd.R_below (kr_ HO745.out) hb); have n2_ := Aside0.mk (below_step (be_ HB.out) hb); clear HO742; clear HO745; clear HB; have HO742 := n0_; have HO745 := n1_; have HB := n2_; clear n0_ n1_ n2_; (try clear hb); (try clear hb2); (try clear hk); (try clear hi)) | ((with_reducible refine gate_callee (f := 13) rfl ?_); refine goesL_ (some 37) rfl rfl Try.func13 (by kernel_rfl) rfl #[.slice Ao13 t743.length co13, .string t739] rfl al_ ?_; (with_reducible refine (impl_DelKey.calls _ _ t743 t739 t748 _ ?side1 ?side2 A7.out).mono ?_); (case side1 => exact kc_ (Kd.R_reads' HO745.out).2.2); (case side2 => exact (Kd.R_reads' HO745.out).2.1); rintro e w15 ⟨v749, rfl, ho0, hb⟩; refine ⟨_, rfl, ?_⟩; have n0_ := Aside0.mk (Kd.R_elder' (kr_ HO742.out) (Kd.R_base ho0) hb); have n1_ := Aside0.mk (Kd.R_elder' (kr_ HO745.out) (Kd.R_base ho0) hb); have n2_ := Aside0.mk (Kd.R_lower (Kd.R_new' (Kd.R_new' ho0 (Kd.R_lt (kr_ HO742.out))) (Kd.R_lt (kr_ HO745.out))) (below_size (be_ HB.out))); have n3_ := Aside0.mk (below_step (be_ HB.out) hb); clear HO742; clear HO745; clear HB; have HO742 := n0_; have HO745 := n1_; have HO750 := n2_; have HB := n3_; clear n0_ n1_ n2_ n3_; (try clear hb); (try clear hb2); (try clear hk); (try clear hi); (try clear ho0); obtain ⟨Ao16, co16, eo16⟩ := Kd.R_slice HO750.out; subst eo16) | ((with_reducible refine gate_callee (f := 32) rfl ?_); refine goesL_ (some 41) rfl rfl Try.func32 (by kernel_rfl) rfl #[.slice Ao16 t748.length co16, .string t739] rfl al_ ?_; (with_reducible refine (impl_GetKey.calls _ _ t748 t739 t751 t752 _ ?side1 ?side2 A8.out).mono ?_); (case side1 => exact kc_ (Kd.R_reads' HO750.out).2.2); (case side2 => exact (Kd.R_reads' HO750.out).2.1); rintro e w17 ⟨rfl, hb⟩; refine ⟨_, rfl, ?_⟩; have n0_ := Aside0.mk (Kd.R_below (kr_ HO742.out) hb); have n1_ := Aside0.mk (Kd.R_below (kr_ HO745.out) hb); have n2_ := Aside0.mk (Kd.R_below (kr_ HO750.out) hb); have n3_ := Aside0.mk (below_step (be_ HB.out) hb); clear HO742; clear HO745; clear HO750; clear HB; have HO742 := n0_; have HO745 := n1_; have HO750 := n2_; have HB := n3_; clear n0_ n1_ n2_ n3_; (try clear hb); (try clear hb2); (try clear hk); (try clear hi)))
    (try simp only [Act.put, sa_, sz_, ss_])
    go_cut [62] (fun v62 wc => ∃ (kq : Nat) (x62_8 : Bool), v62 = .bool x62_8 ∧ Aside0 (laws_FnKeys.j0 kq t738 t739 t743 t748 x62_8 = some r) ∧ Aside0 (kq ≤ k) ∧ Aside0 (Kd.R k53 53 wc w.heap.size (fun k_ => some k_ ≠ ((.slice Ao13 t743.length co13) : Value).ownBlock ∧ some k_ ≠ ((.slice Ao16 t748.length co16) : Value).ownBlock) (.slice Ao11 t738.length co11) t738) ∧ Aside0 (Kd.R k53 53 wc w.heap.size (fun k_ => some k_ ≠ ((.slice Ao11 t738.length co11) : Value).ownBlock ∧ some k_ ≠ ((.slice Ao16 t748.length co16) : Value).ownBlock) (.slice Ao13 t743.length co13) t743) ∧ Aside0 (Kd.R k53 53 wc w.heap.size (fun k_ => some k_ ≠ ((.slice Ao11 t738.length co11) : Value).ownBlock ∧ some k_ ≠ ((.slice Ao13 t743.length co13) : Value).ownBlock) (.slice Ao16 t748.length co16) t748) ∧ Aside0 (Below w.heap.size w wc))
    case first =>
     have H := HC9.out
     clear HC9
     by_cases c18 : t747 = true
     · subst c18
       have H1 : (if t746.toList = t740.toList then (if t752 = true then (laws_FnKeys.j0 k t738 t739 t743 t748 true) else ((spec_PutKey.f k t738 t739 t740).bind fun t753 => ((laws_samePairs.f k t743 t753).bind fun t756 => (laws_FnKeys.j0 k t738 t739 t743 t748 (!t756))))) else (laws_FnKeys.j0 k t738 t739 t743 t748 true)) = some r := by rw [if_pos rfl] at H; exact H
       clear H
       have H := H1
       clear H1
       by_cases c19 : t746.toList = t740.toList
       · rw [if_pos c19] at H
         have c19b0 : (t746.toList == t740.toList) = true := beq_iff_eq.mpr c19
         have c19b1 : (t746.toList != t740.toList) = false := bne_eq_false_iff_eq.mpr c19
         clear c19
         (first | rw [c19b0] | (simp only [i64_w, i32_w]; rw [c19b0]) | skip)
         by_cases c20 : t752 = true
         · subst c20
           have H1 : (laws_FnKeys.j0 k t738 t739 t743 t748 true) = some r := by rw [if_pos rfl] at H; exact H
           clear H
           have H := H1
           clear H1
           have H' := Aside0.mk H
           clear H
           go_wp2
           go_meet
           case rel => exact ⟨_, (true), (by first | rfl | (simp; done) | (simp [*]; done)), H', ⟨by first | omega | exact Nat.le_refl _⟩, ⟨by (with_reducible repeat (first | apply Kd.R_alloc | apply Kd.R_drewN | apply Kd.R_drew)); exact Kd.R_mono HO742.out (fun _ hk => ⟨hk.1.2, hk.2⟩)⟩, ⟨by (with_reducible repeat (first | apply Kd.R_alloc | apply Kd.R_drewN | apply Kd.R_drew)); exact Kd.R_mono HO745.out (fun _ hk => ⟨hk.1.2, hk.2⟩)⟩, ⟨by (with_reducible repeat (first | apply Kd.R_alloc | apply Kd.R_drewN | apply Kd.R_drew)); exact Kd.R_mono HO750.out (fun _ hk => ⟨hk.1.2, hk.2⟩)⟩, ⟨be_ HB.out⟩⟩
         · replace c20 := Bool.eq_false_iff.mpr c20
           subst c20
           have H1 : ((spec_PutKey.f k t738 t739 t740).bind fun t753 => ((laws_samePairs.f k t743 t753).bind fun t756 => (laws_FnKeys.j0 k t738 t739 t743 t748 (!t756)))) = some r := by rw [if_neg (show ¬ (false = true) by decide)] at H; exact H
           clear H
           have H := H1
           clear H1
           replace H := Option.bind_eq_some_iff.mp H
           obtain ⟨t753, A210, H⟩ := H
           have A21 := Aside0.mk A210
           clear A210
           replace H := Option.bind_eq_some_iff.mp H
           obtain ⟨t756, A220, H⟩ := H
           have A22 := Aside0.mk A220
           clear A220
           have H' := Aside0.mk H
           clear H
           go_wp2_with (first | (go_at_call 25; (with_reducible refine (spec_PutKey.calls k _ _ t738 t739 t740 t753 _ ?side1 ?side2 A21.out).mono ?_); (case side1 => exact kc_ (Kd.R_reads' HO742.out).2.2); (case side2 => exact (Kd.R_reads' HO742.out).2.1); rintro e w23 ⟨v754, rfl, ho0, hb⟩; have n0_ := Aside0.mk (Kd.R_elder' (kr_ HO742.out) (Kd.R_base ho0) hb); have n1_ := Aside0.mk (Kd.R_elder' (kr_ HO745.out) (Kd.R_base ho0) hb); have n2_ := Aside0.mk (Kd.R_elder' (kr_ HO750.out) (Kd.R_base ho0) hb); have n3_ := Aside0.mk (Kd.R_lower (Kd.R_new' (Kd.R_new' (Kd.R_new' ho0 (Kd.R_lt (kr_ HO742.out))) (Kd.R_lt (kr_ HO745.out))) (Kd.R_lt (kr_ HO750.out))) (below_size (be_ HB.out))); have n4_ := Aside0.mk (below_step (be_ HB.out) hb); clear HO742; clear HO745; clear HO750; clear HB; have HO742 := n0_; have HO745 := n1_; have HO750 := n2_; have HO755 := n3_; have HB := n4_; clear n0_ n1_ n2_ n3_ n4_; (try clear hb); (try clear hb2); (try clear hk); (try clear hi); (try clear ho0); obtain ⟨Ao24, co24, eo24⟩ := Kd.R_slice HO755.out; subst eo24) | (go_at_call 30; (with_reducible refine (laws_samePairs.calls k _ _ t743 _ _ t753 t756 _ ?side1 ?side2 ?side3 ?side4 A22.out).mono ?_); (case side1 => exact kc_ (Kd.R_reads' HO745.out).2.2); (case side2 => exact (Kd.R_reads' HO745.out).2.1); (case side3 => exact kc_ (Kd.R_reads' HO755.out).2.2); (case side4 => exact (Kd.R_reads' HO755.out).2.1); rintro e w' ⟨rfl, ⟨nd, rfl⟩⟩))
           go_meet
           case rel => exact ⟨_, (!t756), (by first | rfl | (simp; done) | (simp [*]; done)), H', ⟨by first | omega | exact Nat.le_refl _⟩, ⟨by (with_reducible repeat (first | apply Kd.R_alloc | apply Kd.R_drewN | apply Kd.R_drew)); exact Kd.R_mono HO742.out (fun _ hk => ⟨hk.1.1.2, hk.1.2⟩)⟩, ⟨by (with_reducible repeat (first | apply Kd.R_alloc | apply Kd.R_drewN | apply Kd.R_drew)); exact Kd.R_mono HO745.out (fun _ hk => ⟨hk.1.1.2, hk.1.2⟩)⟩, ⟨by (with_reducible repeat (first | apply Kd.R_alloc | apply Kd.R_drewN | apply Kd.R_drew)); exact Kd.R_mono HO750.out (fun _ hk => ⟨hk.1.1.2, hk.1.2⟩)⟩, ⟨be_ HB.out⟩⟩
       · rw [if_neg c19] at H
         have c19b0 : (t746.toList == t740.toList) = false := beq_eq_false_iff_ne.mpr c19
         have c19b1 : (t746.toList != t740.toList) = true := bne_iff_ne.mpr c19
         (first | rw [c19b0] | (simp only [i64_w, i32_w]; rw [c19b0]) | skip)
         have H' := Aside0.mk H
         clear H
         go_wp2
         go_meet
         case rel => exact ⟨_, (true), (by first | rfl | (simp; done) | (simp [*]; done)), H', ⟨by first | omega | exact Nat.le_refl _⟩, ⟨by (with_reducible repeat (first | apply Kd.R_alloc | apply Kd.R_drewN | apply Kd.R_drew)); exact Kd.R_mono HO742.out (fun _ hk => ⟨hk.1.2, hk.2⟩)⟩, ⟨by (with_reducible repeat (first | apply Kd.R_alloc | apply Kd.R_drewN | apply Kd.R_drew)); exact Kd.R_mono HO745.out (fun _ hk => ⟨hk.1.2, hk.2⟩)⟩, ⟨by (with_reducible repeat (first | apply Kd.R_alloc | apply Kd.R_drewN | apply Kd.R_drew)); exact Kd.R_mono HO750.out (fun _ hk => ⟨hk.1.2, hk.2⟩)⟩, ⟨be_ HB.out⟩⟩
     · replace c18 := Bool.eq_false_iff.mpr c18
       subst c18
       have H1 : (laws_FnKeys.j0 k t738 t739 t743 t748 true) = some r := by rw [if_neg (show ¬ (false = true) by decide)] at H; exact H
       clear H
       have H := H1
       clear H1
       have H' := Aside0.mk H
       clear H
       go_wp2
       go_meet
       case rel => exact ⟨_, (true), (by first | rfl | (simp; done) | (simp [*]; done)), H', ⟨by first | omega | exact Nat.le_refl _⟩, ⟨by (with_reducible repeat (first | apply Kd.R_alloc | apply Kd.R_drewN | apply Kd.R_drew)); exact Kd.R_mono HO742.out (fun _ hk => ⟨hk.1.2, hk.2⟩)⟩, ⟨by (with_reducible repeat (first | apply Kd.R_alloc | apply Kd.R_drewN | apply Kd.R_drew)); exact Kd.R_mono HO745.out (fun _ hk => ⟨hk.1.2, hk.2⟩)⟩, ⟨by (with_reducible repeat (first | apply Kd.R_alloc | apply Kd.R_drewN | apply Kd.R_drew)); exact Kd.R_mono HO750.out (fun _ hk => ⟨hk.1.2, hk.2⟩)⟩, ⟨be_ HB.out⟩⟩
    case rest =>
     clear HC9
     try clear c1
     try clear c2
     try clear p2
     try clear c3
     try clear c4
     try clear c9
     try clear c13
     try clear c17
     try clear c18
     try clear c19
     try clear c19b0
     try clear c19b1
     try clear c20
     obtain ⟨kq, x62_8, rfl, HA, HJ8, HO_3, HO_6, HO_9, HB⟩ := hcut
     cases kq with
     | zero => exact absurd HA.out (by simp [laws_FnKeys.j0])
     | succ kj8 =>
      have H := HA.out
      clear HA
      simp only [laws_FnKeys.j0] at H
      by_cases c25 : x62_8 = true
      · subst c25
        have H1 : (some false) = some r := by rw [if_pos rfl] at H; exact H
        clear H
        have H := H1
        clear H1
        obtain rfl := Option.some.inj H
        go_wp2
        go_ret
        exact ⟨by first | rfl | (simp [errW_none, errW_some] <;> rfl) | (simp [*, errW_none, errW_some] <;> rfl), be_ HB.out⟩
      · replace c25 := Bool.eq_false_iff.mpr c25
        subst c25
        have H1 : (laws_FnKeys.l0 kj8 t738 t739 t743 t748 0) = some r := by rw [if_neg (show ¬ (false = true) by decide)] at H; exact H
        clear H
        have H := H1
        clear H1
        have H' := Aside0.mk H
        clear H
        go_wp2
        go_loopg [12] kj8 (fun kq v12 w' => ∃ (x12_2 : Int), v12 = .int .i64 x12_2 ∧ Aside0 (laws_FnKeys.l0 kq t738 t739 t743 t748 x12_2 = some r) ∧ Aside0 (kq ≤ kj8) ∧ Aside0 (Kd.R k53 53 w' w.heap.size (fun k_ => some k_ ≠ ((.slice Ao13 t743.length co13) : Value).ownBlock ∧ some k_ ≠ ((.slice Ao16 t748.length co16) : Value).ownBlock) (.slice Ao11 t738.length co11) t738) ∧ Aside0 (Kd.R k53 53 w' w.heap.size (fun k_ => some k_ ≠ ((.slice Ao11 t738.length co11) : Value).ownBlock ∧ some k_ ≠ ((.slice Ao16 t748.length co16) : Value).ownBlock) (.slice Ao13 t743.length co13) t743) ∧ Aside0 (Kd.R k53 53 w' w.heap.size (fun k_ => some k_ ≠ ((.slice Ao11 t738.length co11) : Value).ownBlock ∧ some k_ ≠ ((.slice Ao13 t743.length co13) : Value).ownBlock) (.slice Ao16 t748.length co16) t748) ∧ Aside0 (Below w.heap.size w w'))
        case atStart => exact ⟨(0), (by first | rfl | (simp; done) | (simp [*]; done)), H', ⟨Nat.le_refl _⟩, ⟨by (with_reducible repeat (first | apply Kd.R_alloc | apply Kd.R_drewN | apply Kd.R_drew)); exact HO_3.out⟩, ⟨by (with_reducible repeat (first | apply Kd.R_alloc | apply Kd.R_drewN | apply Kd.R_drew)); exact HO_6.out⟩, ⟨by (with_reducible repeat (first | apply Kd.R_alloc | apply Kd.R_drewN | apply Kd.R_drew)); exact HO_9.out⟩, ⟨be_ HB.out⟩⟩
        case round =>
         clear H'
         try clear c1
         try clear c2
         try clear p2
         try clear c3
         try clear c4
         try clear c9
         try clear c13
         try clear c17
         try clear c18
         try clear c19
         try clear c19b0
         try clear c19b1
         try clear c20
         try clear c25
         try clear p2
         obtain ⟨x12_2, rfl, HA, HK2, HO_3, HO_6, HO_9, HB⟩ := hrel
         cases gk with
         | zero => exact absurd HA.out (by simp [laws_FnKeys.l0])
         | succ k2 =>
          have H := HA.out
          clear HA
          simp only [laws_FnKeys.l0] at H
          by_cases c26 : x12_2 < (t738.length : Int)
          · rw [if_pos c26] at H
            have c26b0 : decide (x12_2 < (t738.length : Int)) = true := decide_eq_true c26
            clear c26
            by_cases c27 : 0 ≤ x12_2
            rotate_left
            · rw [if_neg c27] at H; exact absurd H (by simp)
            rw [if_pos c27] at H
            have c27b0 : decide (0 ≤ x12_2) = true := decide_eq_true c27
            clear c27
            replace H := Option.bind_eq_some_iff.mp H
            obtain ⟨⟨t758, t759⟩, A280, H⟩ := H; try dsimp only at H
            have A28 := Aside0.mk A280
            clear A280
            replace H := Option.bind_eq_some_iff.mp H
            obtain ⟨⟨t761, t762⟩, A290, H⟩ := H; try dsimp only at H
            have A29 := Aside0.mk A290
            clear A290
            by_cases c30 : ((rd_T53 t738 x12_2).f0).toList = t739.toList
            · rw [if_pos c30] at H
              have c30b0 : (((rd_T53 t738 x12_2).f0).toList == t739.toList) = true := beq_iff_eq.mpr c30
              have c30b1 : (((rd_T53 t738 x12_2).f0).toList != t739.toList) = false := bne_eq_false_iff_eq.mpr c30
              clear c30
              have H' := Aside0.mk H
              clear H
              have p757 : 0 ≤ (x12_2 : Int) := of_decide_eq_true (by first | (with_reducible assumption) | assumption)
              have q757 : x12_2 < (t738.length : Int) := of_decide_eq_true (by first | (with_reducible assumption) | assumption)
              obtain ⟨ad757, e757, hx757_0, hx757_1⟩ := at_T53 (Kd.R_reads' HO_3.out).2.2 x12_2 p757 q757
              cases e757
              replace p757 := eq_true p757
              replace q757 := eq_true q757
              go_wp2_with (first | ((with_reducible refine gate_callee (f := 32) rfl ?_); refine goesL_ (some 76) rfl rfl Try.func32 (by kernel_rfl) rfl #[.slice (some ad757) t738.length co11, .string ((rd_T53 t738 x12_2).f0)] rfl al_ ?_; (with_reducible refine (impl_GetKey.calls _ _ t738 ((rd_T53 t738 x12_2).f0) t758 t759 _ ?side1 ?side2 A28.out).mono ?_); (case side1 => exact kc_ (Kd.R_reads' HO_3.out).2.2); (case side2 => exact (Kd.R_reads' HO_3.out).2.1); rintro e w31 ⟨rfl, hb⟩; refine ⟨_, rfl, ?_⟩; have n0_ := Aside0.mk (Kd.R_below (kr_ HO_3.out) hb); have n1_ := Aside0.mk (Kd.R_below (kr_ HO_6.out) hb); have n2_ := Aside0.mk (Kd.R_below (kr_ HO_9.out) hb); have n3_ := Aside0.mk (below_step (be_ HB.out) hb); clear HO_3; clear HO_6; clear HO_9; clear HB; have HO_3 := n0_; have HO_6 := n1_; have HO_9 := n2_; have HB := n3_; clear n0_ n1_ n2_ n3_; (try clear hb); (try clear hb2); (try clear hk); (try clear hi); have p760 : 0 ≤ (x12_2 : Int) := of_decide_eq_true (by first | (with_reducible assumption) | assumption); have q760 : x12_2 < (t738.length : Int) := of_decide_eq_true (by first | (with_reducible assumption) | assumption); obtain ⟨ad760, e760, hx760_0, hx760_1⟩ := at_T53 (Kd.R_reads' HO_3.out).2.2 x12_2 p760 q760; obtain rfl : ad757 = ad760 := (by injection e760); replace p760 := eq_true p760; replace q760 := eq_true q760) | ((with_reducible refine gate_callee (f := 32) rfl ?_); refine goesL_ (some 86) rfl rfl Try.func32 (by kernel_rfl) rfl #[.slice Ao16 t748.length co16, .string ((rd_T53 t738 x12_2).f0)] rfl al_ ?_; (with_reducible refine (impl_GetKey.calls _ _ t748 ((rd_T53 t738 x12_2).f0) t761 t762 _ ?side1 ?side2 A29.out).mono ?_); (case side1 => exact kc_ (Kd.R_reads' HO_9.out).2.2); (case side2 => exact (Kd.R_reads' HO_9.out).2.1); rintro e w32 ⟨rfl, hb⟩; refine ⟨_, rfl, ?_⟩; have n0_ := Aside0.mk (Kd.R_below (kr_ HO_3.out) hb); have n1_ := Aside0.mk (Kd.R_below (kr_ HO_6.out) hb); have n2_ := Aside0.mk (Kd.R_below (kr_ HO_9.out) hb); have n3_ := Aside0.mk (below_step (be_ HB.out) hb); clear HO_3; clear HO_6; clear HO_9; clear HB; have HO_3 := n0_; have HO_6 := n1_; have HO_9 := n2_; have HB := n3_; clear n0_ n1_ n2_ n3_; (try clear hb); (try clear hb2); (try clear hk); (try clear hi); have p763 : 0 ≤ (x12_2 : Int) := of_decide_eq_true (by first | (with_reducible assumption) | assumption); have q763 : x12_2 < (t738.length : Int) := of_decide_eq_true (by first | (with_reducible assumption) | assumption); obtain ⟨ad763, e763, hx763_0, hx763_1⟩ := at_T53 (Kd.R_reads' HO_3.out).2.2 x12_2 p763 q763; obtain rfl : ad757 = ad763 := (by injection e763); replace p763 := eq_true p763; replace q763 := eq_true q763))
              go_roundg k2
              case measure => have := HJ8.out; have := HK2.out; omega
              case rel => exact ⟨(wrap64 (x12_2 + 1)), (by first | rfl | (simp; done) | (simp [*]; done)), H', ⟨by have := HJ8.out; have := HK2.out; omega⟩, ⟨by (with_reducible repeat (first | apply Kd.R_alloc | apply Kd.R_drewN | apply Kd.R_drew)); exact HO_3.out⟩, ⟨by (with_reducible repeat (first | apply Kd.R_alloc | apply Kd.R_drewN | apply Kd.R_drew)); exact HO_6.out⟩, ⟨by (with_reducible repeat (first | apply Kd.R_alloc | apply Kd.R_drewN | apply Kd.R_drew)); exact HO_9.out⟩, ⟨be_ HB.out⟩⟩
            · rw [if_neg c30] at H
              have c30b0 : (((rd_T53 t738 x12_2).f0).toList == t739.toList) = false := beq_eq_false_iff_ne.mpr c30
              have c30b1 : (((rd_T53 t738 x12_2).f0).toList != t739.toList) = true := bne_iff_ne.mpr c30
              by_cases c33 : t759 = true
              · subst c33
                have H1 : (if t762 = true then (if t758.toList = t761.toList then (laws_FnKeys.l0 k2 t738 t739 t743 t748 (wrap64 (x12_2 + 1))) else (some false)) else (some false)) = some r := by rw [if_pos rfl] at H; exact H
                clear H
                have H := H1
                clear H1
                by_cases c34 : t762 = true
                · subst c34
                  have H1 : (if t758.toList = t761.toList then (laws_FnKeys.l0 k2 t738 t739 t743 t748 (wrap64 (x12_2 + 1))) else (some false)) = some r := by rw [if_pos rfl] at H; exact H
                  clear H
                  have H := H1
                  clear H1
                  by_cases c35 : t758.toList = t761.toList
                  · rw [if_pos c35] at H
                    have c35b0 : (t758.toList == t761.toList) = true := beq_iff_eq.mpr c35
                    have c35b1 : (t758.toList != t761.toList) = false := bne_eq_false_iff_eq.mpr c35
                    clear c35
                    have H' := Aside0.mk H
                    clear H
                    have p757 : 0 ≤ (x12_2 : Int) := of_decide_eq_true (by first | (with_reducible assumption) | assumption)
                    have q757 : x12_2 < (t738.length : Int) := of_decide_eq_true (by first | (with_reducible assumption) | assumption)
                    obtain ⟨ad757, e757, hx757_0, hx757_1⟩ := at_T53 (Kd.R_reads' HO_3.out).2.2 x12_2 p757 q757
                    cases e757
                    replace p757 := eq_true p757
                    replace q757 := eq_true q757
                    go_wp2_with (first | ((with_reducible refine gate_callee (f := 32) rfl ?_); refine goesL_ (some 76) rfl rfl Try.func32 (by kernel_rfl) rfl #[.slice (some ad757) t738.length co11, .string ((rd_T53 t738 x12_2).f0)] rfl al_ ?_; (with_reducible refine (impl_GetKey.calls _ _ t738 ((rd_T53 t738 x12_2).f0) t758 true _ ?side1 ?side2 A28.out).mono ?_); (case side1 => exact kc_ (Kd.R_reads' HO_3.out).2.2); (case side2 => exact (Kd.R_reads' HO_3.out).2.1); rintro e w36 ⟨rfl, hb⟩; refine ⟨_, rfl, ?_⟩; have n0_ := Aside0.mk (Kd.R_below (kr_ HO_3.out) hb); have n1_ := Aside0.mk (Kd.R_below (kr_ HO_6.out) hb); have n2_ := Aside0.mk (Kd.R_below (kr_ HO_9.out) hb); have n3_ := Aside0.mk (below_step (be_ HB.out) hb); clear HO_3; clear HO_6; clear HO_9; clear HB; have HO_3 := n0_; have HO_6 := n1_; have HO_9 := n2_; have HB := n3_; clear n0_ n1_ n2_ n3_; (try clear hb); (try clear hb2); (try clear hk); (try clear hi); have p760 : 0 ≤ (x12_2 : Int) := of_decide_eq_true (by first | (with_reducible assumption) | assumption); have q760 : x12_2 < (t738.length : Int) := of_decide_eq_true (by first | (with_reducible assumption) | assumption); obtain ⟨ad760, e760, hx760_0, hx760_1⟩ := at_T53 (Kd.R_reads' HO_3.out).2.2 x12_2 p760 q760; obtain rfl : ad757 = ad760 := (by injection e760); replace p760 := eq_true p760; replace q760 := eq_true q760) | ((with_reducible refine gate_callee (f := 32) rfl ?_); refine goesL_ (some 86) rfl rfl Try.func32 (by kernel_rfl) rfl #[.slice Ao16 t748.length co16, .string ((rd_T53 t738 x12_2).f0)] rfl al_ ?_; (with_reducible refine (impl_GetKey.calls _ _ t748 ((rd_T53 t738 x12_2).f0) t761 true _ ?side1 ?side2 A29.out).mono ?_); (case side1 => exact kc_ (Kd.R_reads' HO_9.out).2.2); (case side2 => exact (Kd.R_reads' HO_9.out).2.1); rintro e w37 ⟨rfl, hb⟩; refine ⟨_, rfl, ?_⟩; have n0_ := Aside0.mk (Kd.R_below (kr_ HO_3.out) hb); have n1_ := Aside0.mk (Kd.R_below (kr_ HO_6.out) hb); have n2_ := Aside0.mk (Kd.R_below (kr_ HO_9.out) hb); have n3_ := Aside0.mk (below_step (be_ HB.out) hb); clear HO_3; clear HO_6; clear HO_9; clear HB; have HO_3 := n0_; have HO_6 := n1_; have HO_9 := n2_; have HB := n3_; clear n0_ n1_ n2_ n3_; (try clear hb); (try clear hb2); (try clear hk); (try clear hi); have p763 : 0 ≤ (x12_2 : Int) := of_decide_eq_true (by first | (with_reducible assumption) | assumption); have q763 : x12_2 < (t738.length : Int) := of_decide_eq_true (by first | (with_reducible assumption) | assumption); obtain ⟨ad763, e763, hx763_0, hx763_1⟩ := at_T53 (Kd.R_reads' HO_3.out).2.2 x12_2 p763 q763; obtain rfl : ad757 = ad763 := (by injection e763); replace p763 := eq_true p763; replace q763 := eq_true q763))
                    go_roundg k2
                    case measure => have := HJ8.out; have := HK2.out; omega
                    case rel => exact ⟨(wrap64 (x12_2 + 1)), (by first | rfl | (simp; done) | (simp [*]; done)), H', ⟨by have := HJ8.out; have := HK2.out; omega⟩, ⟨by (with_reducible repeat (first | apply Kd.R_alloc | apply Kd.R_drewN | apply Kd.R_drew)); exact HO_3.out⟩, ⟨by (with_reducible repeat (first | apply Kd.R_alloc | apply Kd.R_drewN | apply Kd.R_drew)); exact HO_6.out⟩, ⟨by (with_reducible repeat (first | apply Kd.R_alloc | apply Kd.R_drewN | apply Kd.R_drew)); exact HO_9.out⟩, ⟨be_ HB.out⟩⟩
                  · rw [if_neg c35] at H
                    have c35b0 : (t758.toList == t761.toList) = false := beq_eq_false_iff_ne.mpr c35
                    have c35b1 : (t758.toList != t761.toList) = true := bne_iff_ne.mpr c35
                    obtain rfl := Option.some.inj H
                    have p757 : 0 ≤ (x12_2 : Int) := of_decide_eq_true (by first | (with_reducible assumption) | assumption)
                    have q757 : x12_2 < (t738.length : Int) := of_decide_eq_true (by first | (with_reducible assumption) | assumption)
                    obtain ⟨ad757, e757, hx757_0, hx757_1⟩ := at_T53 (Kd.R_reads' HO_3.out).2.2 x12_2 p757 q757
                    cases e757
                    replace p757 := eq_true p757
                    replace q757 := eq_true q757
                    go_wp2_with (first | ((with_reducible refine gate_callee (f := 32) rfl ?_); refine goesL_ (some 76) rfl rfl Try.func32 (by kernel_rfl) rfl #[.slice (some ad757) t738.length co11, .string ((rd_T53 t738 x12_2).f0)] rfl al_ ?_; (with_reducible refine (impl_GetKey.calls _ _ t738 ((rd_T53 t738 x12_2).f0) t758 true _ ?side1 ?side2 A28.out).mono ?_); (case side1 => exact kc_ (Kd.R_reads' HO_3.out).2.2); (case side2 => exact (Kd.R_reads' HO_3.out).2.1); rintro e w38 ⟨rfl, hb⟩; refine ⟨_, rfl, ?_⟩; have n0_ := Aside0.mk (Kd.R_below (kr_ HO_3.out) hb); have n1_ := Aside0.mk (Kd.R_below (kr_ HO_6.out) hb); have n2_ := Aside0.mk (Kd.R_below (kr_ HO_9.out) hb); have n3_ := Aside0.mk (below_step (be_ HB.out) hb); clear HO_3; clear HO_6; clear HO_9; clear HB; have HO_3 := n0_; have HO_6 := n1_; have HO_9 := n2_; have HB := n3_; clear n0_ n1_ n2_ n3_; (try clear hb); (try clear hb2); (try clear hk); (try clear hi); have p760 : 0 ≤ (x12_2 : Int) := of_decide_eq_true (by first | (with_reducible assumption) | assumption); have q760 : x12_2 < (t738.length : Int) := of_decide_eq_true (by first | (with_reducible assumption) | assumption); obtain ⟨ad760, e760, hx760_0, hx760_1⟩ := at_T53 (Kd.R_reads' HO_3.out).2.2 x12_2 p760 q760; obtain rfl : ad757 = ad760 := (by injection e760); replace p760 := eq_true p760; replace q760 := eq_true q760) | ((with_reducible refine gate_callee (f := 32) rfl ?_); refine goesL_ (some 86) rfl rfl Try.func32 (by kernel_rfl) rfl #[.slice Ao16 t748.length co16, .string ((rd_T53 t738 x12_2).f0)] rfl al_ ?_; (with_reducible refine (impl_GetKey.calls _ _ t748 ((rd_T53 t738 x12_2).f0) t761 true _ ?side1 ?side2 A29.out).mono ?_); (case side1 => exact kc_ (Kd.R_reads' HO_9.out).2.2); (case side2 => exact (Kd.R_reads' HO_9.out).2.1); rintro e w39 ⟨rfl, hb⟩; refine ⟨_, rfl, ?_⟩; have n0_ := Aside0.mk (Kd.R_below (kr_ HO_3.out) hb); have n1_ := Aside0.mk (Kd.R_below (kr_ HO_6.out) hb); have n2_ := Aside0.mk (Kd.R_below (kr_ HO_9.out) hb); have n3_ := Aside0.mk (below_step (be_ HB.out) hb); clear HO_3; clear HO_6; clear HO_9; clear HB; have HO_3 := n0_; have HO_6 := n1_; have HO_9 := n2_; have HB := n3_; clear n0_ n1_ n2_ n3_; (try clear hb); (try clear hb2); (try clear hk); (try clear hi); have p763 : 0 ≤ (x12_2 : Int) := of_decide_eq_true (by first | (with_reducible assumption) | assumption); have q763 : x12_2 < (t738.length : Int) := of_decide_eq_true (by first | (with_reducible assumption) | assumption); obtain ⟨ad763, e763, hx763_0, hx763_1⟩ := at_T53 (Kd.R_reads' HO_3.out).2.2 x12_2 p763 q763; obtain rfl : ad757 = ad763 := (by injection e763); replace p763 := eq_true p763; replace q763 := eq_true q763))
                    go_ret
                    exact ⟨by first | rfl | (simp [errW_none, errW_some] <;> rfl) | (simp [*, errW_none, errW_some] <;> rfl), be_ HB.out⟩
                · replace c34 := Bool.eq_false_iff.mpr c34
                  subst c34
                  have H1 : (some false) = some r := by rw [if_neg (show ¬ (false = true) by decide)] at H; exact H
                  clear H
                  have H := H1
                  clear H1
                  obtain rfl := Option.some.inj H
                  have p757 : 0 ≤ (x12_2 : Int) := of_decide_eq_true (by first | (with_reducible assumption) | assumption)
                  have q757 : x12_2 < (t738.length : Int) := of_decide_eq_true (by first | (with_reducible assumption) | assumption)
                  obtain ⟨ad757, e757, hx757_0, hx757_1⟩ := at_T53 (Kd.R_reads' HO_3.out).2.2 x12_2 p757 q757
                  cases e757
                  replace p757 := eq_true p757
                  replace q757 := eq_true q757
                  go_wp2_with (first | ((with_reducible refine gate_callee (f := 32) rfl ?_); refine goesL_ (some 76) rfl rfl Try.func32 (by kernel_rfl) rfl #[.slice (some ad757) t738.length co11, .string ((rd_T53 t738 x12_2).f0)] rfl al_ ?_; (with_reducible refine (impl_GetKey.calls _ _ t738 ((rd_T53 t738 x12_2).f0) t758 true _ ?side1 ?side2 A28.out).mono ?_); (case side1 => exact kc_ (Kd.R_reads' HO_3.out).2.2); (case side2 => exact (Kd.R_reads' HO_3.out).2.1); rintro e w40 ⟨rfl, hb⟩; refine ⟨_, rfl, ?_⟩; have n0_ := Aside0.mk (Kd.R_below (kr_ HO_3.out) hb); have n1_ := Aside0.mk (Kd.R_below (kr_ HO_6.out) hb); have n2_ := Aside0.mk (Kd.R_below (kr_ HO_9.out) hb); have n3_ := Aside0.mk (below_step (be_ HB.out) hb); clear HO_3; clear HO_6; clear HO_9; clear HB; have HO_3 := n0_; have HO_6 := n1_; have HO_9 := n2_; have HB := n3_; clear n0_ n1_ n2_ n3_; (try clear hb); (try clear hb2); (try clear hk); (try clear hi); have p760 : 0 ≤ (x12_2 : Int) := of_decide_eq_true (by first | (with_reducible assumption) | assumption); have q760 : x12_2 < (t738.length : Int) := of_decide_eq_true (by first | (with_reducible assumption) | assumption); obtain ⟨ad760, e760, hx760_0, hx760_1⟩ := at_T53 (Kd.R_reads' HO_3.out).2.2 x12_2 p760 q760; obtain rfl : ad757 = ad760 := (by injection e760); replace p760 := eq_true p760; replace q760 := eq_true q760) | ((with_reducible refine gate_callee (f := 32) rfl ?_); refine goesL_ (some 86) rfl rfl Try.func32 (by kernel_rfl) rfl #[.slice Ao16 t748.length co16, .string ((rd_T53 t738 x12_2).f0)] rfl al_ ?_; (with_reducible refine (impl_GetKey.calls _ _ t748 ((rd_T53 t738 x12_2).f0) t761 false _ ?side1 ?side2 A29.out).mono ?_); (case side1 => exact kc_ (Kd.R_reads' HO_9.out).2.2); (case side2 => exact (Kd.R_reads' HO_9.out).2.1); rintro e w41 ⟨rfl, hb⟩; refine ⟨_, rfl, ?_⟩; have n0_ := Aside0.mk (Kd.R_below (kr_ HO_3.out) hb); have n1_ := Aside0.mk (Kd.R_below (kr_ HO_6.out) hb); have n2_ := Aside0.mk (Kd.R_below (kr_ HO_9.out) hb); have n3_ := Aside0.mk (below_step (be_ HB.out) hb); clear HO_3; clear HO_6; clear HO_9; clear HB; have HO_3 := n0_; have HO_6 := n1_; have HO_9 := n2_; have HB := n3_; clear n0_ n1_ n2_ n3_; (try clear hb); (try clear hb2); (try clear hk); (try clear hi); have p763 : 0 ≤ (x12_2 : Int) := of_decide_eq_true (by first | (with_reducible assumption) | assumption); have q763 : x12_2 < (t738.length : Int) := of_decide_eq_true (by first | (with_reducible assumption) | assumption); obtain ⟨ad763, e763, hx763_0, hx763_1⟩ := at_T53 (Kd.R_reads' HO_3.out).2.2 x12_2 p763 q763; obtain rfl : ad757 = ad763 := (by injection e763); replace p763 := eq_true p763; replace q763 := eq_true q763))
                  go_ret
                  exact ⟨by first | rfl | (simp [errW_none, errW_some] <;> rfl) | (simp [*, errW_none, errW_some] <;> rfl), be_ HB.out⟩
              · replace c33 := Bool.eq_false_iff.mpr c33
                subst c33
                have H1 : (some false) = some r := by rw [if_neg (show ¬ (false = true) by decide)] at H; exact H
                clear H
                have H := H1
                clear H1
                obtain rfl := Option.some.inj H
                have p757 : 0 ≤ (x12_2 : Int) := of_decide_eq_true (by first | (with_reducible assumption) | assumption)
                have q757 : x12_2 < (t738.length : Int) := of_decide_eq_true (by first | (with_reducible assumption) | assumption)
                obtain ⟨ad757, e757, hx757_0, hx757_1⟩ := at_T53 (Kd.R_reads' HO_3.out).2.2 x12_2 p757 q757
                cases e757
                replace p757 := eq_true p757
                replace q757 := eq_true q757
                go_wp2_with (first | ((with_reducible refine gate_callee (f := 32) rfl ?_); refine goesL_ (some 76) rfl rfl Try.func32 (by kernel_rfl) rfl #[.slice (some ad757) t738.length co11, .string ((rd_T53 t738 x12_2).f0)] rfl al_ ?_; (with_reducible refine (impl_GetKey.calls _ _ t738 ((rd_T53 t738 x12_2).f0) t758 false _ ?side1 ?side2 A28.out).mono ?_); (case side1 => exact kc_ (Kd.R_reads' HO_3.out).2.2); (case side2 => exact (Kd.R_reads' HO_3.out).2.1); rintro e w42 ⟨rfl, hb⟩; refine ⟨_, rfl, ?_⟩; have n0_ := Aside0.mk (Kd.R_below (kr_ HO_3.out) hb); have n1_ := Aside0.mk (Kd.R_below (kr_ HO_6.out) hb); have n2_ := Aside0.mk (Kd.R_below (kr_ HO_9.out) hb); have n3_ := Aside0.mk (below_step (be_ HB.out) hb); clear HO_3; clear HO_6; clear HO_9; clear HB; have HO_3 := n0_; have HO_6 := n1_; have HO_9 := n2_; have HB := n3_; clear n0_ n1_ n2_ n3_; (try clear hb); (try clear hb2); (try clear hk); (try clear hi); have p760 : 0 ≤ (x12_2 : Int) := of_decide_eq_true (by first | (with_reducible assumption) | assumption); have q760 : x12_2 < (t738.length : Int) := of_decide_eq_true (by first | (with_reducible assumption) | assumption); obtain ⟨ad760, e760, hx760_0, hx760_1⟩ := at_T53 (Kd.R_reads' HO_3.out).2.2 x12_2 p760 q760; obtain rfl : ad757 = ad760 := (by injection e760); replace p760 := eq_true p760; replace q760 := eq_true q760) | ((with_reducible refine gate_callee (f := 32) rfl ?_); refine goesL_ (some 86) rfl rfl Try.func32 (by kernel_rfl) rfl #[.slice Ao16 t748.length co16, .string ((rd_T53 t738 x12_2).f0)] rfl al_ ?_; (with_reducible refine (impl_GetKey.calls _ _ t748 ((rd_T53 t738 x12_2).f0) t761 t762 _ ?side1 ?side2 A29.out).mono ?_); (case side1 => exact kc_ (Kd.R_reads' HO_9.out).2.2); (case side2 => exact (Kd.R_reads' HO_9.out).2.1); rintro e w43 ⟨rfl, hb⟩; refine ⟨_, rfl, ?_⟩; have n0_ := Aside0.mk (Kd.R_below (kr_ HO_3.out) hb); have n1_ := Aside0.mk (Kd.R_below (kr_ HO_6.out) hb); have n2_ := Aside0.mk (Kd.R_below (kr_ HO_9.out) hb); have n3_ := Aside0.mk (below_step (be_ HB.out) hb); clear HO_3; clear HO_6; clear HO_9; clear HB; have HO_3 := n0_; have HO_6 := n1_; have HO_9 := n2_; have HB := n3_; clear n0_ n1_ n2_ n3_; (try clear hb); (try clear hb2); (try clear hk); (try clear hi); have p763 : 0 ≤ (x12_2 : Int) := of_decide_eq_true (by first | (with_reducible assumption) | assumption); have q763 : x12_2 < (t738.length : Int) := of_decide_eq_true (by first | (with_reducible assumption) | assumption); obtain ⟨ad763, e763, hx763_0, hx763_1⟩ := at_T53 (Kd.R_reads' HO_3.out).2.2 x12_2 p763 q763; obtain rfl : ad757 = ad763 := (by injection e763); replace p763 := eq_true p763; replace q763 := eq_true q763))
                go_ret
                exact ⟨by first | rfl | (simp [errW_none, errW_some] <;> rfl) | (simp [*, errW_none, errW_some] <;> rfl), be_ HB.out⟩
          · rw [if_neg c26] at H
            have c26b0 : decide (x12_2 < (t738.length : Int)) = false := decide_eq_false c26
            clear c26
            replace H := Option.bind_eq_some_iff.mp H
            obtain ⟨t764, A440, H⟩ := H
            have A44 := Aside0.mk A440
            clear A440
            by_cases c45 : t764 = true
            · subst c45
              have H1 : ((spec_KeyOk.f k2 t739).bind fun t765 => (if t765 = true then (if (t738.length : Int) = 60 then (some true) else ((impl_PairsOk.f k2 t743).bind fun t766 => (if t766 = true then ((impl_PairsOk.f k2 t748).bind fun t767 => (some t767)) else (some false)))) else (some true))) = some r := by rw [if_pos rfl] at H; exact H
              clear H
              have H := H1
              clear H1
              replace H := Option.bind_eq_some_iff.mp H
              obtain ⟨t765, A460, H⟩ := H
              have A46 := Aside0.mk A460
              clear A460
              by_cases c47 : t765 = true
              · subst c47
                have H1 : (if (t738.length : Int) = 60 then (some true) else ((impl_PairsOk.f k2 t743).bind fun t766 => (if t766 = true then ((impl_PairsOk.f k2 t748).bind fun t767 => (some t767)) else (some false)))) = some r := by rw [if_pos rfl] at H; exact H
                clear H
                have H := H1
                clear H1
                by_cases c48 : (t738.length : Int) = 60
                · rw [if_pos c48] at H
                  have c48b0 : ((t738.length : Int) == 60) = true := beq_iff_eq.mpr c48
                  have c48b1 : ((t738.length : Int) != 60) = false := bne_eq_false_iff_eq.mpr c48
                  clear c48
                  obtain rfl := Option.some.inj H
                  go_wp2_with (first | ((with_reducible refine gate_callee (f := 31) rfl ?_); refine goesL_ (some 110) rfl rfl Try.func31 (by kernel_rfl) rfl #[.slice Ao11 t738.length co11] rfl al_ ?_; (with_reducible refine (spec_PairsOk.calls k2 _ _ t738 true _ ?side1 ?side2 A44.out).mono ?_); (case side1 => exact kc_ (Kd.R_reads' HO_3.out).2.2); (case side2 => exact (Kd.R_reads' HO_3.out).2.1); rintro e w49 ⟨rfl, hb⟩; refine ⟨_, rfl, ?_⟩; have n0_ := Aside0.mk (Kd.R_below (kr_ HO_3.out) hb); have n1_ := Aside0.mk (Kd.R_below (kr_ HO_6.out) hb); have n2_ := Aside0.mk (Kd.R_below (kr_ HO_9.out) hb); have n3_ := Aside0.mk (below_step (be_ HB.out) hb); clear HO_3; clear HO_6; clear HO_9; clear HB; have HO_3 := n0_; have HO_6 := n1_; have HO_9 := n2_; have HB := n3_; clear n0_ n1_ n2_ n3_; (try clear hb); (try clear hb2); (try clear hk); (try clear hi)) | (go_at_call 42; (with_reducible refine (spec_KeyOk.calls k2 t739 true _ A46.out).mono ?_); rintro e w' ⟨rfl, ⟨nd, rfl⟩⟩))
                  go_ret
                  exact ⟨by first | rfl | (simp [errW_none, errW_some] <;> rfl) | (simp [*, errW_none, errW_some] <;> rfl), be_ HB.out⟩
                · rw [if_neg c48] at H
                  have c48b0 : ((t738.length : Int) == 60) = false := beq_eq_false_iff_ne.mpr c48
                  have c48b1 : ((t738.length : Int) != 60) = true := bne_iff_ne.mpr c48
                  replace H := Option.bind_eq_some_iff.mp H
                  obtain ⟨t766, A500, H⟩ := H
                  have A50 := Aside0.mk A500
                  clear A500
                  by_cases c51 : t766 = true
                  · subst c51
                    have H1 : ((impl_PairsOk.f k2 t748).bind fun t767 => (some t767)) = some r := by rw [if_pos rfl] at H; exact H
                    clear H
                    have H := H1
                    clear H1
                    replace H := Option.bind_eq_some_iff.mp H
                    obtain ⟨t767, A520, H⟩ := H
                    have A52 := Aside0.mk A520
                    clear A520
                    obtain rfl := Option.some.inj H
                    go_wp2_with (first | ((with_reducible refine gate_callee (f := 31) rfl ?_); refine goesL_ (some 110) rfl rfl Try.func31 (by kernel_rfl) rfl #[.slice Ao11 t738.length co11] rfl al_ ?_; (with_reducible refine (spec_PairsOk.calls k2 _ _ t738 true _ ?side1 ?side2 A44.out).mono ?_); (case side1 => exact kc_ (Kd.R_reads' HO_3.out).2.2); (case side2 => exact (Kd.R_reads' HO_3.out).2.1); rintro e w53 ⟨rfl, hb⟩; refine ⟨_, rfl, ?_⟩; have n0_ := Aside0.mk (Kd.R_below (kr_ HO_3.out) hb); have n1_ := Aside0.mk (Kd.R_below (kr_ HO_6.out) hb); have n2_ := Aside0.mk (Kd.R_below (kr_ HO_9.out) hb); have n3_ := Aside0.mk (below_step (be_ HB.out) hb); clear HO_3; clear HO_6; clear HO_9; clear HB; have HO_3 := n0_; have HO_6 := n1_; have HO_9 := n2_; have HB := n3_; clear n0_ n1_ n2_ n3_; (try clear hb); (try clear hb2); (try clear hk); (try clear hi)) | (go_at_call 42; (with_reducible refine (spec_KeyOk.calls k2 t739 true _ A46.out).mono ?_); rintro e w' ⟨rfl, ⟨nd, rfl⟩⟩) | (go_at_call 43; (with_reducible refine (impl_PairsOk.calls k2 _ _ t743 true _ ?side1 ?side2 A50.out).mono ?_); (case side1 => exact kc_ (Kd.R_reads' HO_6.out).2.2); (case side2 => exact (Kd.R_reads' HO_6.out).2.1); rintro e w54 ⟨rfl, hb⟩; have n0_ := Aside0.mk (Kd.R_below (kr_ HO_3.out) hb); have n1_ := Aside0.mk (Kd.R_below (kr_ HO_6.out) hb); have n2_ := Aside0.mk (Kd.R_below (kr_ HO_9.out) hb); have n3_ := Aside0.mk (below_step (be_ HB.out) hb); clear HO_3; clear HO_6; clear HO_9; clear HB; have HO_3 := n0_; have HO_6 := n1_; have HO_9 := n2_; have HB := n3_; clear n0_ n1_ n2_ n3_; (try clear hb); (try clear hb2); (try clear hk); (try clear hi)) | (go_at_call 43; (with_reducible refine (impl_PairsOk.calls k2 _ _ t748 t767 _ ?side1 ?side2 A52.out).mono ?_); (case side1 => exact kc_ (Kd.R_reads' HO_9.out).2.2); (case side2 => exact (Kd.R_reads' HO_9.out).2.1); rintro e w55 ⟨rfl, hb⟩; have n0_ := Aside0.mk (Kd.R_below (kr_ HO_3.out) hb); have n1_ := Aside0.mk (Kd.R_below (kr_ HO_6.out) hb); have n2_ := Aside0.mk (Kd.R_below (kr_ HO_9.out) hb); have n3_ := Aside0.mk (below_step (be_ HB.out) hb); clear HO_3; clear HO_6; clear HO_9; clear HB; have HO_3 := n0_; have HO_6 := n1_; have HO_9 := n2_; have HB := n3_; clear n0_ n1_ n2_ n3_; (try clear hb); (try clear hb2); (try clear hk); (try clear hi)))
                    go_ret
                    exact ⟨by first | rfl | (simp [errW_none, errW_some] <;> rfl) | (simp [*, errW_none, errW_some] <;> rfl), be_ HB.out⟩
                  · replace c51 := Bool.eq_false_iff.mpr c51
                    subst c51
                    have H1 : (some false) = some r := by rw [if_neg (show ¬ (false = true) by decide)] at H; exact H
                    clear H
                    have H := H1
                    clear H1
                    obtain rfl := Option.some.inj H
                    go_wp2_with (first | ((with_reducible refine gate_callee (f := 31) rfl ?_); refine goesL_ (some 110) rfl rfl Try.func31 (by kernel_rfl) rfl #[.slice Ao11 t738.length co11] rfl al_ ?_; (with_reducible refine (spec_PairsOk.calls k2 _ _ t738 true _ ?side1 ?side2 A44.out).mono ?_); (case side1 => exact kc_ (Kd.R_reads' HO_3.out).2.2); (case side2 => exact (Kd.R_reads' HO_3.out).2.1); rintro e w56 ⟨rfl, hb⟩; refine ⟨_, rfl, ?_⟩; have n0_ := Aside0.mk (Kd.R_below (kr_ HO_3.out) hb); have n1_ := Aside0.mk (Kd.R_below (kr_ HO_6.out) hb); have n2_ := Aside0.mk (Kd.R_below (kr_ HO_9.out) hb); have n3_ := Aside0.mk (below_step (be_ HB.out) hb); clear HO_3; clear HO_6; clear HO_9; clear HB; have HO_3 := n0_; have HO_6 := n1_; have HO_9 := n2_; have HB := n3_; clear n0_ n1_ n2_ n3_; (try clear hb); (try clear hb2); (try clear hk); (try clear hi)) | (go_at_call 42; (with_reducible refine (spec_KeyOk.calls k2 t739 true _ A46.out).mono ?_); rintro e w' ⟨rfl, ⟨nd, rfl⟩⟩) | (go_at_call 43; (with_reducible refine (impl_PairsOk.calls k2 _ _ t743 false _ ?side1 ?side2 A50.out).mono ?_); (case side1 => exact kc_ (Kd.R_reads' HO_6.out).2.2); (case side2 => exact (Kd.R_reads' HO_6.out).2.1); rintro e w57 ⟨rfl, hb⟩; have n0_ := Aside0.mk (Kd.R_below (kr_ HO_3.out) hb); have n1_ := Aside0.mk (Kd.R_below (kr_ HO_6.out) hb); have n2_ := Aside0.mk (Kd.R_below (kr_ HO_9.out) hb); have n3_ := Aside0.mk (below_step (be_ HB.out) hb); clear HO_3; clear HO_6; clear HO_9; clear HB; have HO_3 := n0_; have HO_6 := n1_; have HO_9 := n2_; have HB := n3_; clear n0_ n1_ n2_ n3_; (try clear hb); (try clear hb2); (try clear hk); (try clear hi)))
                    go_ret
                    exact ⟨by first | rfl | (simp [errW_none, errW_some] <;> rfl) | (simp [*, errW_none, errW_some] <;> rfl), be_ HB.out⟩
              · replace c47 := Bool.eq_false_iff.mpr c47
                subst c47
                have H1 : (some true) = some r := by rw [if_neg (show ¬ (false = true) by decide)] at H; exact H
                clear H
                have H := H1
                clear H1
                obtain rfl := Option.some.inj H
                go_wp2_with (first | ((with_reducible refine gate_callee (f := 31) rfl ?_); refine goesL_ (some 110) rfl rfl Try.func31 (by kernel_rfl) rfl #[.slice Ao11 t738.length co11] rfl al_ ?_; (with_reducible refine (spec_PairsOk.calls k2 _ _ t738 true _ ?side1 ?side2 A44.out).mono ?_); (case side1 => exact kc_ (Kd.R_reads' HO_3.out).2.2); (case side2 => exact (Kd.R_reads' HO_3.out).2.1); rintro e w58 ⟨rfl, hb⟩; refine ⟨_, rfl, ?_⟩; have n0_ := Aside0.mk (Kd.R_below (kr_ HO_3.out) hb); have n1_ := Aside0.mk (Kd.R_below (kr_ HO_6.out) hb); have n2_ := Aside0.mk (Kd.R_below (kr_ HO_9.out) hb); have n3_ := Aside0.mk (below_step (be_ HB.out) hb); clear HO_3; clear HO_6; clear HO_9; clear HB; have HO_3 := n0_; have HO_6 := n1_; have HO_9 := n2_; have HB := n3_; clear n0_ n1_ n2_ n3_; (try clear hb); (try clear hb2); (try clear hk); (try clear hi)) | (go_at_call 42; (with_reducible refine (spec_KeyOk.calls k2 t739 false _ A46.out).mono ?_); rintro e w' ⟨rfl, ⟨nd, rfl⟩⟩))
                go_ret
                exact ⟨by first | rfl | (simp [errW_none, errW_some] <;> rfl) | (simp [*, errW_none, errW_some] <;> rfl), be_ HB.out⟩
            · replace c45 := Bool.eq_false_iff.mpr c45
              subst c45
              have H1 : (some true) = some r := by rw [if_neg (show ¬ (false = true) by decide)] at H; exact H
              clear H
              have H := H1
              clear H1
              obtain rfl := Option.some.inj H
              go_wp2_with (first | ((with_reducible refine gate_callee (f := 31) rfl ?_); refine goesL_ (some 110) rfl rfl Try.func31 (by kernel_rfl) rfl #[.slice Ao11 t738.length co11] rfl al_ ?_; (with_reducible refine (spec_PairsOk.calls k2 _ _ t738 false _ ?side1 ?side2 A44.out).mono ?_); (case side1 => exact kc_ (Kd.R_reads' HO_3.out).2.2); (case side2 => exact (Kd.R_reads' HO_3.out).2.1); rintro e w59 ⟨rfl, hb⟩; refine ⟨_, rfl, ?_⟩; have n0_ := Aside0.mk (Kd.R_below (kr_ HO_3.out) hb); have n1_ := Aside0.mk (Kd.R_below (kr_ HO_6.out) hb); have n2_ := Aside0.mk (Kd.R_below (kr_ HO_9.out) hb); have n3_ := Aside0.mk (below_step (be_ HB.out) hb); clear HO_3; clear HO_6; clear HO_9; clear HB; have HO_3 := n0_; have HO_6 := n1_; have HO_9 := n2_; have HB := n3_; clear n0_ n1_ n2_ n3_; (try clear hb); (try clear hb2); (try clear hk); (try clear hi)))
              go_ret
              exact ⟨by first | rfl | (simp [errW_none, errW_some] <;> rfl) | (simp [*, errW_none, errW_some] <;> rfl), be_ HB.out⟩

end Go.Proofs.Ytamkjoflkkffhaa.P
