-- Written by wip/xp/xp.py over the kit's print; Lean checks it.
import Derived.Test.YtgaalomhipfgjaaPx0
import Derived.Test.YtgaalomhipfgjaaPx1
import Derived.Test.YtgaalomhipfgjaaPx5
import Derived.Test.YtgaalomhipfgjaaPx11
import Derived.Test.YtgaalomhipfgjaaPx12
namespace Go.Proofs.Ytgaalomhipfgjaa.P
open Go.RowKit Go.Proofs.YtgaalomhipfgjaaW.PrintWords Go.Proofs.YtgaalomhipfgjaaW.PrintLast Go.Proofs.YtgaalomhipfgjaaW.PrintMore
attribute [local go_sem] max2_int min2_int max_two min_two max_three min_three max_four min_four   -- for this text's walks alone
set_option linter.unusedVariables false
set_option linter.unusedSimpArgs false

/-! ###  laws_FnExactCheckBetween: function 4 -/
mutual
def laws_FnExactCheckBetween.j0 : Nat → ByteArray → ByteArray → ByteArray → List (S26) → Bool → List (S26) → Bool → Bool → Int → Int → List (S131) → Int → Int → List (S63) → Option (Bool)
  | 0, _, _, _, _, _, _, _, _, _, _, _, _, _, _ => none
  | k + 1, x0, x1, x2, x10, x11, x13, x14, x61, x626000, x626001, x626002, x642000, x642001, x642002 => if x61 = true then (some false) else ((laws_toProof.f k x626000 x626001 x626002).bind fun bt647 => ((laws_eqProof.f k x642000 x642001 x642002 bt647.1 bt647.2.1 bt647.2.2).bind fun t652 => (if t652 = true then ((laws_markProof.f k x642000 x642001 x642002 1).bind fun bm_ => (if bm_.1 < 0 then (laws_FnExactCheckBetween.j1 k x0 x1 x2 x10 x11 x13 true x626000 x626001 x626002) else ((laws_eqPairS.f k x13 x10).bind fun t654 => (if t654 = true then (laws_FnExactCheckBetween.j1 k x0 x1 x2 x10 x11 x13 (x14 != x11) x626000 x626001 x626002) else (laws_FnExactCheckBetween.j1 k x0 x1 x2 x10 x11 x13 true x626000 x626001 x626002))))) else (some false))))
def laws_FnExactCheckBetween.j1 : Nat → ByteArray → ByteArray → ByteArray → List (S26) → Bool → List (S26) → Bool → Int → Int → List (S131) → Option (Bool)
  | 0, _, _, _, _, _, _, _, _, _, _ => none
  | k + 1, x0, x1, x2, x10, x11, x13, x82, x626000, x626001, x626002 => if x82 = true then (some false) else ((laws_markPairS.f k x13 1).bind fun bt655 => ((laws_heldPairS.f k bt655.2 1).bind fun t657 => (if t657 < 0 then (some false) else (if t657 = bt655.1 then ((laws_toProof.f k x626000 x626001 x626002).bind fun bt658 => ((impl_CheckBetween.f k x0 x1 x2 bt658.1 bt658.2.1 bt658.2.2).bind fun bt663 => ((laws_eqPairS.f k bt663.1 x10).bind fun t667 => (if t667 = true then (laws_FnExactCheckBetween.j2 k bt655.2 bt655.1 (bt663.2 != x11)) else (laws_FnExactCheckBetween.j2 k bt655.2 bt655.1 true))))) else (some false)))))
def laws_FnExactCheckBetween.j2 : Nat → List (S26) → Int → Bool → Option (Bool)
  | 0, _, _, _ => none
  | k + 1, x13, x16, x111 => if x111 = true then (some false) else ((laws_heldPairS.f k x13 1).bind fun t668 => (if t668 < 0 then (some false) else (if t668 = x16 then (some true) else (some false))))
end
def laws_FnExactCheckBetween.f (k : Nat) (a0 : ByteArray) (a1 : ByteArray) (a2 : ByteArray) (a3_0 : Int) (a3_1 : Int) (l3_2 : List (S131)) : Option (Bool) := if (a0.size : Int) > 1048576 then (some true) else (if (a1.size : Int) > 1048576 then (some true) else (if (a2.size : Int) > 1048576 then (some true) else ((laws_szProof.f k a3_0 a3_1 l3_2 1048576).bind fun t626 => (if t626 < 0 then (some true) else ((laws_toProof.f k a3_0 a3_1 l3_2).bind fun bt627 => ((spec_CheckBetween.f k a0 a1 a2 bt627.1 bt627.2.1 bt627.2.2).bind fun bt632 => ((laws_toProof.f k a3_0 a3_1 l3_2).bind fun bt636 => ((impl_CheckBetween.f k a0 a1 a2 bt636.1 bt636.2.1 bt636.2.2).bind fun bt642 => ((laws_eqPairS.f k bt642.1 bt632.1).bind fun t646 => (if t646 = true then (laws_FnExactCheckBetween.j0 k a0 a1 a2 bt632.1 bt632.2 bt642.1 bt642.2 (bt642.2 != bt632.2) a3_0 a3_1 l3_2 bt636.1 bt636.2.1 bt636.2.2) else (laws_FnExactCheckBetween.j0 k a0 a1 a2 bt632.1 bt632.2 bt642.1 bt642.2 true a3_0 a3_1 l3_2 bt636.1 bt636.2.1 bt636.2.2)))))))))))
set_option maxHeartbeats 8000000 in
set_option maxRecDepth 100000 in
theorem laws_FnExactCheckBetween.calls (k : Nat) (a0 : ByteArray) (a1 : ByteArray) (a2 : ByteArray) (a3_0 : Int) (a3_1 : Int) (A3_2 : Option Addr) (c3_2 : Nat) (l3_2 : List (S131)) (r : Bool) (w : World) (hr3_2 : Kd.C k131 w A3_2 l3_2.length l3_2) (hc3_2 : l3_2.length ≤ c3_2) (h : laws_FnExactCheckBetween.f k a0 a1 a2 a3_0 a3_1 l3_2 = some r) :
  Calls Try.prog 4 #[.string a0, .string a1, .string a2, .agg #[.int .i64 a3_0, .int .i64 a3_1, .slice A3_2 l3_2.length c3_2]] w fun e w' => e = .returned (.bool r) ∧ Below w.heap.size w w' := by
  have hu38 := Try.underlying38
  have hu44 := Try.underlying44
  have HR3_2 := Aside0.mk hr3_2
  have HC3_2 := Aside0.mk hc3_2
  clear hr3_2 hc3_2
  have HB := q_ (Below.refl w.heap.size w)
  have H : (if (a0.size : Int) > 1048576 then (some true) else (if (a1.size : Int) > 1048576 then (some true) else (if (a2.size : Int) > 1048576 then (some true) else ((laws_szProof.f k a3_0 a3_1 l3_2 1048576).bind fun t626 => (if t626 < 0 then (some true) else ((laws_toProof.f k a3_0 a3_1 l3_2).bind fun bt627 => ((spec_CheckBetween.f k a0 a1 a2 bt627.1 bt627.2.1 bt627.2.2).bind fun bt632 => ((laws_toProof.f k a3_0 a3_1 l3_2).bind fun bt636 => ((impl_CheckBetween.f k a0 a1 a2 bt636.1 bt636.2.1 bt636.2.2).bind fun bt642 => ((laws_eqPairS.f k bt642.1 bt632.1).bind fun t646 => (if t646 = true then (laws_FnExactCheckBetween.j0 k a0 a1 a2 bt632.1 bt632.2 bt642.1 bt642.2 (bt642.2 != bt632.2) a3_0 a3_1 l3_2 bt636.1 bt636.2.1 bt636.2.2) else (laws_FnExactCheckBetween.j0 k a0 a1 a2 bt632.1 bt632.2 bt642.1 bt642.2 true a3_0 a3_1 l3_2 bt636.1 bt636.2.1 bt636.2.2)))))))))))) = some r := h
  clear h
  by_cases c5 : (a0.size : Int) > 1048576
  · rw [if_pos c5] at H
    have c5b0 : decide (1048576 < (a0.size : Int)) = true := decide_eq_true c5
    have c5b1 : decide (1048576 < a0.size) = true := decide_eq_true (by omega)
    clear c5
    obtain rfl := Option.some.inj H
    go_enter Try.func4, Try.ntmps4
    go_wp2_with (first | ((with_reducible refine gate_dst (N := 7) rfl ?_); refine box_event rfl (N := 7) rfl (cs := #[.int .i64 a3_0, .int .i64 a3_1, .slice A3_2 l3_2.length c3_2]) (t := 38) hr_ ?_; intro gb625 hg w6 hbox hb; have BK625 := q_ (hbox); have GW625 := q_ ((by rw [hg]; exact (below_size (be_ HB.out)) : w.heap.size ≤ gb625)); have GE625 := q_ ((by rw [hg]; exact (below_size (be_ HB.out)) : w.heap.size ≤ gb625)); replace HB := q_ (below_step (be_ HB.out) hb); clear hb hbox hg))
    go_ret
    exact ⟨rf_, bs_ HB.out GE625.out⟩
  · rw [if_neg c5] at H
    have c5b0 : decide (1048576 < (a0.size : Int)) = false := decide_eq_false c5
    have c5b1 : decide (1048576 < a0.size) = false := decide_eq_false (by omega)
    clear c5
    by_cases c7 : (a1.size : Int) > 1048576
    · rw [if_pos c7] at H
      have c7b0 : decide (1048576 < (a1.size : Int)) = true := decide_eq_true c7
      have c7b1 : decide (1048576 < a1.size) = true := decide_eq_true (by omega)
      clear c7
      obtain rfl := Option.some.inj H
      go_enter Try.func4, Try.ntmps4
      go_wp2_with (first | ((with_reducible refine gate_dst (N := 7) rfl ?_); refine box_event rfl (N := 7) rfl (cs := #[.int .i64 a3_0, .int .i64 a3_1, .slice A3_2 l3_2.length c3_2]) (t := 38) hr_ ?_; intro gb625 hg w8 hbox hb; have BK625 := q_ (hbox); have GW625 := q_ ((by rw [hg]; exact (below_size (be_ HB.out)) : w.heap.size ≤ gb625)); have GE625 := q_ ((by rw [hg]; exact (below_size (be_ HB.out)) : w.heap.size ≤ gb625)); replace HB := q_ (below_step (be_ HB.out) hb); clear hb hbox hg))
      go_ret
      exact ⟨rf_, bs_ HB.out GE625.out⟩
    · rw [if_neg c7] at H
      have c7b0 : decide (1048576 < (a1.size : Int)) = false := decide_eq_false c7
      have c7b1 : decide (1048576 < a1.size) = false := decide_eq_false (by omega)
      clear c7
      by_cases c9 : (a2.size : Int) > 1048576
      · rw [if_pos c9] at H
        have c9b0 : decide (1048576 < (a2.size : Int)) = true := decide_eq_true c9
        have c9b1 : decide (1048576 < a2.size) = true := decide_eq_true (by omega)
        clear c9
        obtain rfl := Option.some.inj H
        go_enter Try.func4, Try.ntmps4
        go_wp2_with (first | ((with_reducible refine gate_dst (N := 7) rfl ?_); refine box_event rfl (N := 7) rfl (cs := #[.int .i64 a3_0, .int .i64 a3_1, .slice A3_2 l3_2.length c3_2]) (t := 38) hr_ ?_; intro gb625 hg w10 hbox hb; have BK625 := q_ (hbox); have GW625 := q_ ((by rw [hg]; exact (below_size (be_ HB.out)) : w.heap.size ≤ gb625)); have GE625 := q_ ((by rw [hg]; exact (below_size (be_ HB.out)) : w.heap.size ≤ gb625)); replace HB := q_ (below_step (be_ HB.out) hb); clear hb hbox hg))
        go_ret
        exact ⟨rf_, bs_ HB.out GE625.out⟩
      · rw [if_neg c9] at H
        have c9b0 : decide (1048576 < (a2.size : Int)) = false := decide_eq_false c9
        have c9b1 : decide (1048576 < a2.size) = false := decide_eq_false (by omega)
        clear c9
        replace H := Option.bind_eq_some_iff.mp H
        obtain ⟨t626, A110, H⟩ := H
        have A11 := Aside0.mk A110
        clear A110
        by_cases c12 : t626 < 0
        · rw [if_pos c12] at H
          have c12b0 : decide (t626 < 0) = true := decide_eq_true c12
          clear c12
          obtain rfl := Option.some.inj H
          go_enter Try.func4, Try.ntmps4
          go_wp2_with (first | ((with_reducible refine gate_dst (N := 7) rfl ?_); refine box_event rfl (N := 7) rfl (cs := #[.int .i64 a3_0, .int .i64 a3_1, .slice A3_2 l3_2.length c3_2]) (t := 38) hr_ ?_; intro gb625 hg w13 hbox hb; have BK625 := q_ (hbox); have GW625 := q_ ((by rw [hg]; exact (below_size (be_ HB.out)) : w.heap.size ≤ gb625)); have GE625 := q_ ((by rw [hg]; exact (below_size (be_ HB.out)) : w.heap.size ≤ gb625)); replace HB := q_ (below_step (be_ HB.out) hb); clear hb hbox hg; obtain ⟨hcz14_0, hcz14_1, hcz14_2, hfz14_0, hfz14_1, hfz14_2⟩ := bx3_ BK625.out) | ((with_reducible refine gate_callee (f := 17) rfl ?_); refine gl_ (some 31) Try.func17 #[.agg #[.int .i64 a3_0, .int .i64 a3_1, .slice A3_2 l3_2.length c3_2], .int .i64 1048576] rfl al_ ?_; (with_reducible refine (laws_szProof.calls k a3_0 a3_1 _ _ l3_2 1048576 t626 _ ?side1 ?side2 A11.out).mono ?_); (case side1 => exact kc_ (Kd.C_below HR3_2.out HB.out)); (case side2 => exact HC3_2.out); rintro e w15 ⟨rfl, hb⟩; refine ⟨_, rfl, ?_⟩; replace BK625 := q_ (bb_ BK625.out hb); replace HB := q_ (below_step (bs_ HB.out GE625.out) hb); (try clear hb)))
          go_ret
          exact ⟨rf_, bs_ HB.out GE625.out⟩
        · rw [if_neg c12] at H
          have c12b0 : decide (t626 < 0) = false := decide_eq_false c12
          clear c12
          replace H := Option.bind_eq_some_iff.mp H
          obtain ⟨⟨t627, t628, t629⟩, A160, H⟩ := H; try dsimp only at H
          have A16 := Aside0.mk A160
          clear A160
          replace H := Option.bind_eq_some_iff.mp H
          obtain ⟨⟨t632, t635⟩, A170, H⟩ := H; try dsimp only at H
          have A17 := Aside0.mk A170
          clear A170
          replace H := Option.bind_eq_some_iff.mp H
          obtain ⟨⟨t636, t637, t638⟩, A180, H⟩ := H; try dsimp only at H
          have A18 := Aside0.mk A180
          clear A180
          replace H := Option.bind_eq_some_iff.mp H
          obtain ⟨⟨t642, t645⟩, A190, H⟩ := H; try dsimp only at H
          have A19 := Aside0.mk A190
          clear A190
          have HC20 := Aside0.mk H
          clear H
          go_enter Try.func4, Try.ntmps4
          go_upto_region 14 with (first | ((with_reducible refine gate_dst (N := 7) rfl ?_); refine box_event rfl (N := 7) rfl (cs := #[.int .i64 a3_0, .int .i64 a3_1, .slice A3_2 l3_2.length c3_2]) (t := 38) hr_ ?_; intro gb625 hg w21 hbox hb; have BK625 := q_ (hbox); have GW625 := q_ ((by rw [hg]; exact (below_size (be_ HB.out)) : w.heap.size ≤ gb625)); have GE625 := q_ ((by rw [hg]; exact (below_size (be_ HB.out)) : w.heap.size ≤ gb625)); replace HB := q_ (below_step (be_ HB.out) hb); clear hb hbox hg; obtain ⟨hcz22_0, hcz22_1, hcz22_2, hfz22_0, hfz22_1, hfz22_2⟩ := bx3_ BK625.out) | ((with_reducible refine gate_callee (f := 17) rfl ?_); refine gl_ (some 31) Try.func17 #[.agg #[.int .i64 a3_0, .int .i64 a3_1, .slice A3_2 l3_2.length c3_2], .int .i64 1048576] rfl al_ ?_; (with_reducible refine (laws_szProof.calls k a3_0 a3_1 _ _ l3_2 1048576 t626 _ ?side1 ?side2 A11.out).mono ?_); (case side1 => exact kc_ (Kd.C_below HR3_2.out HB.out)); (case side2 => exact HC3_2.out); rintro e w23 ⟨rfl, hb⟩; refine ⟨_, rfl, ?_⟩; replace BK625 := q_ (bb_ BK625.out hb); replace HB := q_ (below_step (bs_ HB.out GE625.out) hb); (try clear hb); obtain ⟨hcz24_0, hcz24_1, hcz24_2, hfz24_0, hfz24_1, hfz24_2⟩ := bx3_ BK625.out) | ((with_reducible refine gate_callee (f := 19) rfl ?_); refine gl_ (some 39) Try.func19 #[.agg #[.int .i64 a3_0, .int .i64 a3_1, .slice A3_2 l3_2.length c3_2]] rfl al_ ?_; (with_reducible refine (laws_toProof.calls k a3_0 a3_1 _ _ l3_2 t627 t628 t629 _ ?side1 ?side2 A16.out).mono ?_); (case side1 => exact kc_ (Kd.C_below HR3_2.out HB.out)); (case side2 => exact HC3_2.out); rintro e w25 ⟨v630, rfl, ho0, hb⟩; refine ⟨_, rfl, ?_⟩; have HO631 := q_ (Kd.S_lower ho0 (below_size (bs_ HB.out GE625.out))); replace BK625 := q_ (bb_ BK625.out hb); replace HB := q_ (below_step (bs_ HB.out GE625.out) hb); (try clear hb); (try clear ho0); obtain ⟨Ao26, co26, eo26⟩ := Kd.S_slice HO631.out; subst eo26) | ((with_reducible refine gate_callee (f := 18) rfl ?_); refine gl_ (some 40) Try.func18 #[.string a0, .string a1, .string a2, .agg #[.int .i64 t627, .int .i64 t628, .slice Ao26 t629.length co26]] rfl al_ ?_; (with_reducible refine (spec_CheckBetween.calls k a0 a1 a2 t627 t628 _ _ t629 t632 t635 _ ?side1 ?side2 A17.out).mono ?_); (case side1 => repeat (first | exact (Kd.S_reads' HO631.out).2.2 | (with_reducible refine Kd.C_alloc ?_ _) | (with_reducible refine Kd.C_drewN ?_ _) | (with_reducible refine Kd.C_drew ?_))); (case side2 => exact (Kd.S_reads' HO631.out).2.1); rintro e w27 ⟨v633, rfl, ho0, hb⟩; refine ⟨_, rfl, ?_⟩; replace HO631 := q_ (Kd.S_below (ks_ HO631.out) hb); have HO634 := q_ (Kd.R_lower ho0 (below_size (bs_ HB.out GE625.out))); replace BK625 := q_ (bb_ BK625.out hb); replace HB := q_ (below_step (bs_ HB.out GE625.out) hb); (try clear hb); (try clear ho0); obtain ⟨hcz28_0, hcz28_1, hcz28_2, hfz28_0, hfz28_1, hfz28_2⟩ := bx3_ BK625.out) | ((with_reducible refine gate_callee (f := 19) rfl ?_); refine gl_ (some 44) Try.func19 #[.agg #[.int .i64 a3_0, .int .i64 a3_1, .slice A3_2 l3_2.length c3_2]] rfl al_ ?_; (with_reducible refine (laws_toProof.calls k a3_0 a3_1 _ _ l3_2 t636 t637 t638 _ ?side1 ?side2 A18.out).mono ?_); (case side1 => exact kc_ (Kd.C_below HR3_2.out HB.out)); (case side2 => exact HC3_2.out); rintro e w29 ⟨v639, rfl, ho0, hb⟩; refine ⟨_, rfl, ?_⟩; replace HO634 := q_ (Kd.R_below (kr_ HO634.out) hb); have HO640 := q_ (Kd.S_lower (Kd.S_new' ho0 (Kd.S_lt (ks_ HO631.out))) (below_size (bs_ HB.out GE625.out))); replace HO631 := q_ (Kd.S_elder' (ks_ HO631.out) (Kd.S_base ho0) hb); replace BK625 := q_ (bb_ BK625.out hb); replace HB := q_ (below_step (bs_ HB.out GE625.out) hb); (try clear hb); (try clear ho0)) | ((with_reducible refine gate_dst (N := 12) rfl ?_); refine box_event rfl (N := 12) rfl (cs := #[.int .i64 0, .int .i64 0, .slice none 0 0]) (t := 44) hr_ ?_; intro gb641 hg w30 hbox hb; replace HO631 := q_ (Kd.S_below (ks_ HO631.out) hb); replace HO634 := q_ (Kd.R_below (kr_ HO634.out) hb); replace HO640 := q_ (Kd.S_below (ks_ HO640.out) hb); have BK641 := q_ (hbox); have GW641 := q_ ((by rw [hg]; exact (below_size (bs_ HB.out GE625.out)) : w.heap.size ≤ gb641)); have GE641 := q_ ((by rw [hg]; exact (below_size (bs_ HB.out GE625.out)) : w.heap.size ≤ gb641)); replace HB := q_ (below_step (bs_ HB.out GE625.out) hb); have NB625_641 := q_ ((by rw [hg]; exact Nat.ne_of_lt (blk_lt (g := gb625) (o := .cells #[.int .i64 a3_0, .int .i64 a3_1, .slice A3_2 l3_2.length c3_2] 38 (0, 0)) (bk_ BK625.out)) : gb625 ≠ gb641)); have NB641_625 := q_ ((by rw [hg]; exact Nat.ne_of_gt (blk_lt (g := gb625) (o := .cells #[.int .i64 a3_0, .int .i64 a3_1, .slice A3_2 l3_2.length c3_2] 38 (0, 0)) (bk_ BK625.out)) : gb641 ≠ gb625)); replace BK625 := q_ (bb_ BK625.out hb); clear hb hbox hg; have hnb31 := NB641_625.out; have hnc31 := NB625_641.out; obtain ⟨hcz32_0, hcz32_1, hcz32_2, hfz32_0, hfz32_1, hfz32_2⟩ := bx3_ BK641.out; obtain ⟨Ao33, co33, eo33⟩ := Kd.S_slice HO640.out; subst eo33) | ((with_reducible refine gate_callee (f := 20) rfl ?_); refine gl_ (some 50) Try.func20 #[.string a0, .string a1, .string a2, .agg #[.int .i64 t636, .int .i64 t637, .slice Ao33 t638.length co33]] rfl al_ ?_; (with_reducible refine (impl_CheckBetween.calls k a0 a1 a2 t636 t637 _ _ t638 t642 t645 _ ?side1 ?side2 A19.out).mono ?_); (case side1 => refine (Kd.S_reads' (e := 63) (base := w.heap.size) (ok := fun k_ => (True ∧ some k_ ≠ (.slice Ao26 t629.length co26 : Value).ownBlock)) (n := t638.length) (c := co33) ?_).2.2; exact (by (with_reducible repeat (first | apply Kd.S_alloc | apply Kd.S_drewN | apply Kd.S_drew)); exact (Kd.S_mono (Kd.S_far (p := ⟨gb641, 2, none⟩) (Kd.S_far (p := ⟨gb641, 1, none⟩) (Kd.S_far (p := ⟨gb641, 0, none⟩) (Kd.S_types HO640.out BK641.out (by decide)) (fun _ hk => hk.2) (.int .i64 t636)) (fun _ hk => hk.2) (.int .i64 t637)) (fun _ hk => hk.2) (.slice Ao33 t638.length co33)) (fun _ h_ => h_.1)))); (case side2 => exact (Kd.S_reads' HO640.out).2.1); rintro e w34 ⟨v643, rfl, ho0, hb⟩; refine ⟨_, rfl, ?_⟩; replace HO631 := q_ (Kd.S_below (by (with_reducible repeat (first | apply Kd.S_alloc | apply Kd.S_drewN | apply Kd.S_drew)); exact (Kd.S_mono (Kd.S_far (p := ⟨gb641, 2, none⟩) (Kd.S_far (p := ⟨gb641, 1, none⟩) (Kd.S_far (p := ⟨gb641, 0, none⟩) (Kd.S_types HO631.out BK641.out (by decide)) (fun _ hk => hk.2) (.int .i64 t636)) (fun _ hk => hk.2) (.int .i64 t637)) (fun _ hk => hk.2) (.slice Ao33 t638.length co33)) (fun _ h_ => h_.1))) hb); replace HO640 := q_ (Kd.S_below (by (with_reducible repeat (first | apply Kd.S_alloc | apply Kd.S_drewN | apply Kd.S_drew)); exact (Kd.S_mono (Kd.S_far (p := ⟨gb641, 2, none⟩) (Kd.S_far (p := ⟨gb641, 1, none⟩) (Kd.S_far (p := ⟨gb641, 0, none⟩) (Kd.S_types HO640.out BK641.out (by decide)) (fun _ hk => hk.2) (.int .i64 t636)) (fun _ hk => hk.2) (.int .i64 t637)) (fun _ hk => hk.2) (.slice Ao33 t638.length co33)) (fun _ h_ => h_.1))) hb); have HO644 := q_ (Kd.R_lower (Kd.R_new' ho0 (Kd.R_lt (by (with_reducible repeat (first | apply Kd.R_alloc | apply Kd.R_drewN | apply Kd.R_drew)); exact (Kd.R_mono (Kd.R_far (p := ⟨gb641, 2, none⟩) (Kd.R_far (p := ⟨gb641, 1, none⟩) (Kd.R_far (p := ⟨gb641, 0, none⟩) (Kd.R_types HO634.out BK641.out (by decide)) (fun _ hk => hk.2) (.int .i64 t636)) (fun _ hk => hk.2) (.int .i64 t637)) (fun _ hk => hk.2) (.slice Ao33 t638.length co33)) (fun _ h_ => h_.1))))) (below_size (b2_ HB.out GE625.out GE641.out))); replace HO634 := q_ (Kd.R_elder' (by (with_reducible repeat (first | apply Kd.R_alloc | apply Kd.R_drewN | apply Kd.R_drew)); exact (Kd.R_mono (Kd.R_far (p := ⟨gb641, 2, none⟩) (Kd.R_far (p := ⟨gb641, 1, none⟩) (Kd.R_far (p := ⟨gb641, 0, none⟩) (Kd.R_types HO634.out BK641.out (by decide)) (fun _ hk => hk.2) (.int .i64 t636)) (fun _ hk => hk.2) (.int .i64 t637)) (fun _ hk => hk.2) (.slice Ao33 t638.length co33)) (fun _ h_ => h_.1))) (Kd.R_base ho0) hb); replace BK625 := q_ (blk_below (g := gb625) (o := .cells #[.int .i64 a3_0, .int .i64 a3_1, .slice A3_2 l3_2.length c3_2] 38 (0, 0)) (by (with_reducible repeat (first | refine blk_drewN ?_ _ | refine blk_drew ?_ | refine blk_alloc ?_ _)); refine blk_far ?_ NB625_641.out _; (with_reducible repeat (first | refine blk_drewN ?_ _ | refine blk_drew ?_ | refine blk_alloc ?_ _)); refine blk_far ?_ NB625_641.out _; (with_reducible repeat (first | refine blk_drewN ?_ _ | refine blk_drew ?_ | refine blk_alloc ?_ _)); refine blk_far ?_ NB625_641.out _; (with_reducible repeat (first | refine blk_drewN ?_ _ | refine blk_drew ?_ | refine blk_alloc ?_ _)); exact BK625.out) hb); replace BK641 := q_ (blk_below (g := gb641) (o := .cells #[.int .i64 t636, .int .i64 t637, .slice Ao33 t638.length co33] 44 (0, 0)) (by (with_reducible repeat (first | refine blk_drewN ?_ _ | refine blk_drew ?_ | refine blk_alloc ?_ _)); refine blk_put (cs := #[.int .i64 t636, .int .i64 t637, .slice none 0 0]) ?_ 2 _ rfl; (with_reducible repeat (first | refine blk_drewN ?_ _ | refine blk_drew ?_ | refine blk_alloc ?_ _)); refine blk_put (cs := #[.int .i64 t636, .int .i64 0, .slice none 0 0]) ?_ 1 _ rfl; (with_reducible repeat (first | refine blk_drewN ?_ _ | refine blk_drew ?_ | refine blk_alloc ?_ _)); refine blk_put (cs := #[.int .i64 0, .int .i64 0, .slice none 0 0]) ?_ 0 _ rfl; (with_reducible repeat (first | refine blk_drewN ?_ _ | refine blk_drew ?_ | refine blk_alloc ?_ _)); exact BK641.out) hb); replace HB := q_ (below_step (b2_ HB.out GE625.out GE641.out) hb); (try clear hb); (try clear ho0)))
          (try simp only [Act.put, sa_, sz_, ss_])
          go_cut [61] (fun v61 wc => ∃ (kq : Nat) (x61_19 : Bool), v61 = .bool x61_19 ∧ Aside0 (laws_FnExactCheckBetween.j0 kq a0 a1 a2 t632 t635 t642 t645 x61_19 a3_0 a3_1 l3_2 t636 t637 t638 = some r) ∧ Aside0 (kq ≤ k) ∧ Aside0 (Kd.R k26 26 wc w.heap.size (fun k_ => some k_ ≠ (v643 : Value).ownBlock) v633 t632) ∧ Aside0 (Kd.R k26 26 wc w.heap.size (fun k_ => some k_ ≠ (v633 : Value).ownBlock) v643 t642) ∧ Aside0 (Kd.S k63 63 wc w.heap.size (fun _ => True) (.slice Ao33 t638.length co33) t638) ∧ Aside0 (wc.heap[gb625]? = some (.cells #[.int .i64 a3_0, .int .i64 a3_1, (.slice A3_2 l3_2.length c3_2)] 38 (0, 0))) ∧ Aside0 (wc.heap[gb641]? = some (.cells #[.int .i64 t636, .int .i64 t637, (.slice Ao33 t638.length co33)] 44 (0, 0))) ∧ Aside0 (Below w.heap.size w wc))
          case first =>
           have H := HC20.out
           clear HC20
           replace H := Option.bind_eq_some_iff.mp H
           obtain ⟨t646, A350, H⟩ := H
           have A35 := Aside0.mk A350
           clear A350
           by_cases c36 : t646 = true
           · subst c36
             rw [if_pos rfl] at H
             have H' := Aside0.mk H
             clear H
             obtain ⟨Ao37, co37, eo37⟩ := Kd.R_slice HO644.out
             subst eo37
             obtain ⟨Ao38, co38, eo38⟩ := Kd.R_slice HO634.out
             subst eo38
             go_wp2_with (first | ((with_reducible refine gate_callee (f := 21) rfl ?_); refine gl_ (some 55) Try.func21 #[.slice Ao37 t642.length co37, .slice Ao38 t632.length co38] rfl al_ ?_; (with_reducible refine (laws_eqPairS.calls k _ _ t642 _ _ t632 true _ ?side1 ?side2 ?side3 ?side4 A35.out).mono ?_); (case side1 => exact kc_ (Kd.R_reads' HO644.out).2.2); (case side2 => exact (Kd.R_reads' HO644.out).2.1); (case side3 => exact kc_ (Kd.R_reads' HO634.out).2.2); (case side4 => exact (Kd.R_reads' HO634.out).2.1); rintro e w39 ⟨rfl, hb⟩; refine ⟨_, rfl, ?_⟩; replace HO631 := q_ (Kd.S_below (ks_ HO631.out) hb); replace HO634 := q_ (Kd.R_below (kr_ HO634.out) hb); replace HO640 := q_ (Kd.S_below (ks_ HO640.out) hb); replace HO644 := q_ (Kd.R_below (kr_ HO644.out) hb); replace BK625 := q_ (bb_ BK625.out hb); replace BK641 := q_ (bb_ BK641.out hb); replace HB := q_ (below_step (b2_ HB.out GE625.out GE641.out) hb); (try clear hb)))
             go_meet
             case rel => exact ⟨_, ((t645 != t635)), rs_, H', ⟨by first | omega | exact Nat.le_refl _⟩, ⟨by (with_reducible repeat (first | apply Kd.R_alloc | apply Kd.R_drewN | apply Kd.R_drew)); exact Kd.R_mono HO634.out (fun _ hk => hk.2)⟩, ⟨by (with_reducible repeat (first | apply Kd.R_alloc | apply Kd.R_drewN | apply Kd.R_drew)); exact Kd.R_mono HO644.out (fun _ hk => hk.2)⟩, ⟨by (with_reducible repeat (first | apply Kd.S_alloc | apply Kd.S_drewN | apply Kd.S_drew)); exact Kd.S_mono HO640.out (fun _ hk => trivial)⟩, ⟨by (with_reducible repeat (first | refine blk_drewN ?_ _ | refine blk_drew ?_ | refine blk_alloc ?_ _)); exact BK625.out⟩, ⟨by (with_reducible repeat (first | refine blk_drewN ?_ _ | refine blk_drew ?_ | refine blk_alloc ?_ _)); exact BK641.out⟩, ⟨b2_ HB.out GE625.out GE641.out⟩⟩
           replace c36 := Bool.eq_false_iff.mpr c36
           subst c36
           rw [if_neg (show ¬ (false = true) by decide)] at H
           have H' := Aside0.mk H
           clear H
           obtain ⟨Ao40, co40, eo40⟩ := Kd.R_slice HO644.out
           subst eo40
           obtain ⟨Ao41, co41, eo41⟩ := Kd.R_slice HO634.out
           subst eo41
           go_wp2_with (first | ((with_reducible refine gate_callee (f := 21) rfl ?_); refine gl_ (some 55) Try.func21 #[.slice Ao40 t642.length co40, .slice Ao41 t632.length co41] rfl al_ ?_; (with_reducible refine (laws_eqPairS.calls k _ _ t642 _ _ t632 false _ ?side1 ?side2 ?side3 ?side4 A35.out).mono ?_); (case side1 => exact kc_ (Kd.R_reads' HO644.out).2.2); (case side2 => exact (Kd.R_reads' HO644.out).2.1); (case side3 => exact kc_ (Kd.R_reads' HO634.out).2.2); (case side4 => exact (Kd.R_reads' HO634.out).2.1); rintro e w42 ⟨rfl, hb⟩; refine ⟨_, rfl, ?_⟩; replace HO631 := q_ (Kd.S_below (ks_ HO631.out) hb); replace HO634 := q_ (Kd.R_below (kr_ HO634.out) hb); replace HO640 := q_ (Kd.S_below (ks_ HO640.out) hb); replace HO644 := q_ (Kd.R_below (kr_ HO644.out) hb); replace BK625 := q_ (bb_ BK625.out hb); replace BK641 := q_ (bb_ BK641.out hb); replace HB := q_ (below_step (b2_ HB.out GE625.out GE641.out) hb); (try clear hb)))
           go_meet
           case rel => exact ⟨_, (true), rs_, H', ⟨by first | omega | exact Nat.le_refl _⟩, ⟨by (with_reducible repeat (first | apply Kd.R_alloc | apply Kd.R_drewN | apply Kd.R_drew)); exact Kd.R_mono HO634.out (fun _ hk => hk.2)⟩, ⟨by (with_reducible repeat (first | apply Kd.R_alloc | apply Kd.R_drewN | apply Kd.R_drew)); exact Kd.R_mono HO644.out (fun _ hk => hk.2)⟩, ⟨by (with_reducible repeat (first | apply Kd.S_alloc | apply Kd.S_drewN | apply Kd.S_drew)); exact Kd.S_mono HO640.out (fun _ hk => trivial)⟩, ⟨by (with_reducible repeat (first | refine blk_drewN ?_ _ | refine blk_drew ?_ | refine blk_alloc ?_ _)); exact BK625.out⟩, ⟨by (with_reducible repeat (first | refine blk_drewN ?_ _ | refine blk_drew ?_ | refine blk_alloc ?_ _)); exact BK641.out⟩, ⟨b2_ HB.out GE625.out GE641.out⟩⟩
          case rest =>
           clear HC20
           try clear c1
           try clear c2
           try clear p2
           try clear c3
           try clear c4
           try clear c5
           try clear c5b0
           try clear c5b1
           try clear c7
           try clear c7b0
           try clear c7b1
           try clear c9
           try clear c9b0
           try clear c9b1
           try clear c12
           try clear c12b0
           try clear c17
           try clear c18
           try clear c19
           try clear c20
           try clear c21
           try clear c31
           try clear c36
           try clear hcz14_0
           try clear hcz14_1
           try clear hcz14_2
           try clear hcz22_0
           try clear hcz22_1
           try clear hcz22_2
           try clear hcz24_0
           try clear hcz24_1
           try clear hcz24_2
           try clear hcz28_0
           try clear hcz28_1
           try clear hcz28_2
           try clear hcz32_0
           try clear hcz32_1
           try clear hcz32_2
           try clear hfz14_0
           try clear hfz14_1
           try clear hfz14_2
           try clear hfz22_0
           try clear hfz22_1
           try clear hfz22_2
           try clear hfz24_0
           try clear hfz24_1
           try clear hfz24_2
           try clear hfz28_0
           try clear hfz28_1
           try clear hfz28_2
           try clear hfz32_0
           try clear hfz32_1
           try clear hfz32_2
           obtain ⟨kq, x61_19, rfl, HA, HJ19, HO_10, HO_13, HO_642002, BK625, BK641, HB⟩ := hcut
           cases kq with
           | zero => exact absurd HA.out (by simp [laws_FnExactCheckBetween.j0])
           | succ kj19 =>
            have H := HA.out
            clear HA
            simp only [laws_FnExactCheckBetween.j0] at H
            by_cases c43 : x61_19 = true
            · subst c43
              rw [if_pos rfl] at H
              obtain rfl := Option.some.inj H
              go_wp2
              go_ret
              exact ⟨rf_, b2_ HB.out GE625.out GE641.out⟩
            · replace c43 := Bool.eq_false_iff.mpr c43
              subst c43
              rw [if_neg (show ¬ (false = true) by decide)] at H
              replace H := Option.bind_eq_some_iff.mp H
              obtain ⟨⟨t647, t648, t649⟩, A440, H⟩ := H; try dsimp only at H
              have A44 := Aside0.mk A440
              clear A440
              replace H := Option.bind_eq_some_iff.mp H
              obtain ⟨t652, A450, H⟩ := H
              have A45 := Aside0.mk A450
              clear A450
              by_cases c46 : t652 = true
              · subst c46
                rw [if_pos rfl] at H
                replace H := Option.bind_eq_some_iff.mp H
                obtain ⟨⟨t653, tm_⟩, A470, H⟩ := H; try dsimp only at H
                have A47 := Aside0.mk A470
                have HML_ := q_ (show tm_.length = t638.length from laws_markProof.len A47.out)
                clear A470
                have HC48 := Aside0.mk H
                clear H
                try go_wp2
                replace HO_10 := q_ (Kd.R_drew HO_10.out)
                replace HO_13 := q_ (Kd.R_drew HO_13.out)
                replace HO_642002 := q_ (Kd.S_drew HO_642002.out)
                replace BK625 := q_ (blk_drew BK625.out)
                replace BK641 := q_ (blk_drew BK641.out)
                replace HB := q_ (below_drew1 HB.out)
                refine start_ (n := 5) (S := fun w' => w'.cell? ⟨gb641, 0, none⟩ = some (.int .i64 t636) ∧ w'.cell? ⟨gb641, 1, none⟩ = some (.int .i64 t637) ∧ w'.cell? ⟨gb641, 2, none⟩ = some (.slice Ao33 t638.length co33) ∧ w'.cell? ⟨gb625, 0, none⟩ = some (.int .i64 a3_0) ∧ w'.cell? ⟨gb625, 1, none⟩ = some (.int .i64 a3_1) ∧ w'.cell? ⟨gb625, 2, none⟩ = some (.slice A3_2 l3_2.length c3_2)) (ds := []) (bq_ 0 5) (by kernel_rfl) rfl rfl ⟨(blk_cell BK641.out 0).trans rfl, (blk_cell BK641.out 1).trans rfl, (blk_cell BK641.out 2).trans rfl, (blk_cell BK625.out 0).trans rfl, (blk_cell BK625.out 1).trans rfl, (blk_cell BK625.out 2).trans rfl⟩ (fun hHeld => ?_)
                generalize wc.drew = w49 at HO_10 HO_13 HO_642002 BK625 BK641 HB hHeld ⊢
                refine take_ (i := 0) (N := some 62) (v := ?_) (a' := ?_) (bq_ 1 4) rfl rfl (by kernel_rfl) (fun _ _ _ h => h) (Or.inl ⟨by rfl, ?_⟩) hHeld ?_ ?_
                rotate_left
                · rintro w' ⟨s0, s1, s2, s3, s4, s5⟩
                  go_simp
                  with_reducible rfl
                rotate_left
                · simp only [Act.put, sa_, sz_, ss_, i64_w, i32_w]; rfl
                refine take_ (i := 1) (N := some 63) (v := ?_) (a' := ?_) (bq_ 2 3) rfl rfl (by kernel_rfl) (fun _ _ _ h => h) (Or.inl ⟨by rfl, ?_⟩) hHeld ?_ ?_
                rotate_left
                · rintro w' ⟨s0, s1, s2, s3, s4, s5⟩
                  go_simp
                  with_reducible rfl
                rotate_left
                · simp only [Act.put, sa_, sz_, ss_, i64_w, i32_w]; rfl
                refine one_ (i := 2) (N := some 64) (bq_ 3 2) rfl rfl (by kernel_rfl) (by decide) (fun K hK => ?_)
                refine goes_ Try.func19 (by kernel_rfl) rfl #[.agg #[.int .i64 a3_0, .int .i64 a3_1, .slice A3_2 l3_2.length c3_2]] (by rfl) rfl rfl al_ ?_
                with_reducible refine (laws_toProof.calls kj19 a3_0 a3_1 _ _ l3_2 t647 t648 t649 _ ?side1 ?side2 A44.out).mono ?_
                (case side1 => exact kc_ (Kd.C_below HR3_2.out HB.out))
                (case side2 => exact HC3_2.out)
                rintro e w50 ⟨v650, rfl, ho0, hb⟩
                refine ⟨_, rfl, ?_⟩
                replace HO_10 := q_ (Kd.R_below (kr_ HO_10.out) hb)
                replace HO_13 := q_ (Kd.R_below (kr_ HO_13.out) hb)
                have HO651 := q_ (Kd.S_lower (Kd.S_new' ho0 (Kd.S_lt (ks_ HO_642002.out))) (below_size (b2_ HB.out GE625.out GE641.out)))
                replace HO_642002 := q_ (Kd.S_elder' (ks_ HO_642002.out) (Kd.S_base ho0) hb)
                replace BK625 := q_ (bb_ BK625.out hb)
                replace BK641 := q_ (bb_ BK641.out hb)
                replace HB := q_ (below_step (b2_ HB.out GE625.out GE641.out) hb)
                (try clear hb)
                (try clear hb2)
                (try clear hk)
                (try clear hi)
                (try clear ho0)
                obtain ⟨Ao51, co51, eo51⟩ := Kd.S_slice HO651.out
                (first | subst eo51 | (injection eo51 with f1_ f2_ f3_; have f4_ := f1_.symm; have f5_ := f3_.symm; clear f1_ f2_ f3_; subst f4_; subst f5_))
                refine hK.out _ _ ⟨(blk_cell BK641.out 0).trans rfl, (blk_cell BK641.out 1).trans rfl, (blk_cell BK641.out 2).trans rfl, (blk_cell BK625.out 0).trans rfl, (blk_cell BK625.out 1).trans rfl, (blk_cell BK625.out 2).trans rfl⟩ (fun hHeld => ?_)
                clear hK K
                refine nm_ ?_
                refine one_ (i := 3) (N := some 65) (bq_ 4 1) rfl rfl (by kernel_rfl) (by decide) (fun K hK => ?_)
                refine goes_ Try.func22 (by kernel_rfl) rfl #[.agg #[.int .i64 t636, .int .i64 t637, .slice Ao33 t638.length co33], .agg #[.int .i64 t647, .int .i64 t648, .slice Ao51 t649.length co51]] (by rfl) rfl rfl al_ ?_
                with_reducible refine (laws_eqProof.calls kj19 t636 t637 _ _ t638 t647 t648 _ _ t649 true _ ?side1 ?side2 ?side3 ?side4 A45.out).mono ?_
                (case side1 => repeat (first | exact (Kd.S_reads' HO_642002.out).2.2 | (with_reducible refine Kd.C_alloc ?_ _) | (with_reducible refine Kd.C_drewN ?_ _) | (with_reducible refine Kd.C_drew ?_)))
                (case side2 => exact (Kd.S_reads' HO_642002.out).2.1)
                (case side3 => repeat (first | exact (Kd.S_reads' HO651.out).2.2 | (with_reducible refine Kd.C_alloc ?_ _) | (with_reducible refine Kd.C_drewN ?_ _) | (with_reducible refine Kd.C_drew ?_)))
                (case side4 => exact (Kd.S_reads' HO651.out).2.1)
                rintro e w52 ⟨rfl, hb⟩
                refine ⟨_, rfl, ?_⟩
                replace HO_10 := q_ (Kd.R_below (kr_ HO_10.out) hb)
                replace HO_13 := q_ (Kd.R_below (kr_ HO_13.out) hb)
                replace HO_642002 := q_ (Kd.S_below (ks_ HO_642002.out) hb)
                replace HO651 := q_ (Kd.S_below (ks_ HO651.out) hb)
                replace BK625 := q_ (bb_ BK625.out hb)
                replace BK641 := q_ (bb_ BK641.out hb)
                replace HB := q_ (below_step (b2_ HB.out GE625.out GE641.out) hb)
                (try clear hb)
                (try clear hb2)
                (try clear hk)
                (try clear hi)
                refine hK.out _ _ ⟨(blk_cell BK641.out 0).trans rfl, (blk_cell BK641.out 1).trans rfl, (blk_cell BK641.out 2).trans rfl, (blk_cell BK625.out 0).trans rfl, (blk_cell BK625.out 1).trans rfl, (blk_cell BK625.out 2).trans rfl⟩ (fun hHeld => ?_)
                clear hK K
                refine nm_ ?_
                refine pure_ (i := 4) (N := some 66) (v := ?_) (a' := ?_) (bq_ 5 0) rfl rfl (by kernel_rfl) (fun _ _ _ h => h) (Or.inl ⟨by rfl, ?_⟩) ?_ ?_
                rotate_left
                · intro w'; go_simp; with_reducible rfl
                rotate_left
                · simp only [Act.put, sa_, sz_, ss_, i64_w, i32_w]; rfl
                refine done_ (by kernel_rfl) ?_
                have hnb53 := NB641_625.out
                have hnc53 := NB625_641.out
                obtain ⟨hcz54_0, hcz54_1, hcz54_2, hfz54_0, hfz54_1, hfz54_2⟩ := bx3_ BK641.out
                go_upto_region 20 with (first | ((with_reducible refine gate_callee (f := 23) rfl ?_); refine gl_ (some 69) Try.func23 #[.agg #[.int .i64 t636, .int .i64 t637, .slice Ao33 t638.length co33], .int .i64 1] rfl al_ ?_; (with_reducible refine (laws_markProof.callsS kj19 t636 t637 Ao33 co33 t638.length t638 1 t653 tm_ _ w _ HB.out (Kd.S_bound (Kd.S_types (Kd.S_types HO_642002.out BK625.out (by decide)) BK641.out (by decide))) A47.out).mono ?_); rintro e w55 ⟨rfl, hs_, hb, hk_⟩; refine ⟨_, rfl, ?_⟩; replace HO_10 := q_ (Kd.R_mono (Kd.R_step (Kd.R_bound HO_10.out) (fun k_ h_ hl_ => hk_.2 k_ hl_ (fun o_ => mi_apart h_.2.2.2 o_.2.2.2 (by decide)))) (fun _ h_ => h_.1)); replace HO_13 := q_ (Kd.R_mono (Kd.R_step (Kd.R_bound HO_13.out) (fun k_ h_ hl_ => hk_.2 k_ hl_ (fun o_ => mi_apart h_.2.2.2 o_.2.2.2 (by decide)))) (fun _ h_ => h_.1)); replace HO_642002 := q_ (mi_len2 HML_.out (Kd.S_mono hs_ (fun _ h_ => h_.1.1.1))); replace HO651 := Aside0.mk True.intro; replace BK625 := q_ ((hk_.2 gb625 (blk_lt BK625.out) (fun o_ => o_.1.1.2 rfl)).trans BK625.out); replace BK641 := q_ (mi_box2 HML_.out ((hk_.2 gb641 (blk_lt BK641.out) (fun o_ => o_.1.2 rfl)).trans BK641.out)); replace HB := Aside0.mk hb; clear hb hs_ hk_; (try clear hb2); (try clear hk); (try clear hi)))
                (try simp only [Act.put, sa_, sz_, ss_])
                go_cut [82] (fun v82 wc => ∃ (kq : Nat) (x82_47 : Bool), v82 = .bool x82_47 ∧ Aside0 (laws_FnExactCheckBetween.j1 kq a0 a1 a2 t632 t635 t642 x82_47 a3_0 a3_1 l3_2 = some r) ∧ Aside0 (kq ≤ kj19) ∧ Aside0 (Kd.R k26 26 wc w.heap.size (fun k_ => some k_ ≠ (v643 : Value).ownBlock) v633 t632) ∧ Aside0 (Kd.R k26 26 wc w.heap.size (fun k_ => some k_ ≠ (v633 : Value).ownBlock) v643 t642) ∧ Aside0 (Kd.S k63 63 wc w.heap.size (fun _ => True) (.slice Ao33 tm_.length co33) tm_) ∧ Aside0 (wc.heap[gb625]? = some (.cells #[.int .i64 a3_0, .int .i64 a3_1, (.slice A3_2 l3_2.length c3_2)] 38 (0, 0))) ∧ Aside0 (wc.heap[gb641]? = some (.cells #[.int .i64 t636, .int .i64 t637, (.slice Ao33 tm_.length co33)] 44 (0, 0))) ∧ Aside0 (Below w.heap.size w wc))
                case first =>
                 have H := HC48.out
                 clear HC48
                 by_cases c56 : t653 < 0
                 · rw [if_pos c56] at H
                   have c56b0 : decide (t653 < 0) = true := decide_eq_true c56
                   clear c56
                   (first | rw [c56b0] | (simp only [i64_w, i32_w]; rw [c56b0]) | skip)
                   have H' := Aside0.mk H
                   clear H
                   go_wp2
                   go_meet
                   case rel => exact ⟨_, (true), rs_, H', ⟨by have := HJ19.out; first | omega | exact Nat.le_refl _⟩, ⟨by (with_reducible repeat (first | apply Kd.R_alloc | apply Kd.R_drewN | apply Kd.R_drew)); exact HO_10.out⟩, ⟨by (with_reducible repeat (first | apply Kd.R_alloc | apply Kd.R_drewN | apply Kd.R_drew)); exact HO_13.out⟩, ⟨by (with_reducible repeat (first | apply Kd.S_alloc | apply Kd.S_drewN | apply Kd.S_drew)); exact Kd.S_mono HO_642002.out (fun _ hk => trivial)⟩, ⟨by (with_reducible repeat (first | refine blk_drewN ?_ _ | refine blk_drew ?_ | refine blk_alloc ?_ _)); exact BK625.out⟩, ⟨by (with_reducible repeat (first | refine blk_drewN ?_ _ | refine blk_drew ?_ | refine blk_alloc ?_ _)); exact BK641.out⟩, ⟨b2_ HB.out GE625.out GE641.out⟩⟩
                 rw [if_neg c56] at H
                 have c56b0 : decide (t653 < 0) = false := decide_eq_false c56
                 clear c56
                 (first | rw [c56b0] | (simp only [i64_w, i32_w]; rw [c56b0]) | skip)
                 replace H := Option.bind_eq_some_iff.mp H
                 obtain ⟨t654, A570, H⟩ := H
                 have A57 := Aside0.mk A570
                 clear A570
                 by_cases c58 : t654 = true
                 · subst c58
                   rw [if_pos rfl] at H
                   have H' := Aside0.mk H
                   clear H
                   obtain ⟨Ao59, co59, eo59⟩ := Kd.R_slice HO_13.out
                   subst eo59
                   obtain ⟨Ao60, co60, eo60⟩ := Kd.R_slice HO_10.out
                   subst eo60
                   go_wp2_with (first | (go_at_call 21; (with_reducible refine (laws_eqPairS.calls kj19 _ _ t642 _ _ t632 true _ ?side1 ?side2 ?side3 ?side4 A57.out).mono ?_); (case side1 => exact kc_ (Kd.R_reads' HO_13.out).2.2); (case side2 => exact (Kd.R_reads' HO_13.out).2.1); (case side3 => exact kc_ (Kd.R_reads' HO_10.out).2.2); (case side4 => exact (Kd.R_reads' HO_10.out).2.1); rintro e w61 ⟨rfl, hb⟩; replace HO_10 := q_ (Kd.R_below (kr_ HO_10.out) hb); replace HO_13 := q_ (Kd.R_below (kr_ HO_13.out) hb); replace HO_642002 := q_ (Kd.S_below (ks_ HO_642002.out) hb); replace HO651 := Aside0.mk True.intro; replace BK625 := q_ (bb_ BK625.out hb); replace BK641 := q_ (bb_ BK641.out hb); replace HB := q_ (below_step (b2_ HB.out GE625.out GE641.out) hb); (try clear hb)))
                   go_meet
                   case rel => exact ⟨_, ((t645 != t635)), rs_, H', ⟨by have := HJ19.out; first | omega | exact Nat.le_refl _⟩, ⟨by (with_reducible repeat (first | apply Kd.R_alloc | apply Kd.R_drewN | apply Kd.R_drew)); exact HO_10.out⟩, ⟨by (with_reducible repeat (first | apply Kd.R_alloc | apply Kd.R_drewN | apply Kd.R_drew)); exact HO_13.out⟩, ⟨by (with_reducible repeat (first | apply Kd.S_alloc | apply Kd.S_drewN | apply Kd.S_drew)); exact Kd.S_mono HO_642002.out (fun _ hk => trivial)⟩, ⟨by (with_reducible repeat (first | refine blk_drewN ?_ _ | refine blk_drew ?_ | refine blk_alloc ?_ _)); exact BK625.out⟩, ⟨by (with_reducible repeat (first | refine blk_drewN ?_ _ | refine blk_drew ?_ | refine blk_alloc ?_ _)); exact BK641.out⟩, ⟨b2_ HB.out GE625.out GE641.out⟩⟩
                 replace c58 := Bool.eq_false_iff.mpr c58
                 subst c58
                 rw [if_neg (show ¬ (false = true) by decide)] at H
                 have H' := Aside0.mk H
                 clear H
                 obtain ⟨Ao62, co62, eo62⟩ := Kd.R_slice HO_13.out
                 subst eo62
                 obtain ⟨Ao63, co63, eo63⟩ := Kd.R_slice HO_10.out
                 subst eo63
                 go_wp2_with (first | (go_at_call 21; (with_reducible refine (laws_eqPairS.calls kj19 _ _ t642 _ _ t632 false _ ?side1 ?side2 ?side3 ?side4 A57.out).mono ?_); (case side1 => exact kc_ (Kd.R_reads' HO_13.out).2.2); (case side2 => exact (Kd.R_reads' HO_13.out).2.1); (case side3 => exact kc_ (Kd.R_reads' HO_10.out).2.2); (case side4 => exact (Kd.R_reads' HO_10.out).2.1); rintro e w64 ⟨rfl, hb⟩; replace HO_10 := q_ (Kd.R_below (kr_ HO_10.out) hb); replace HO_13 := q_ (Kd.R_below (kr_ HO_13.out) hb); replace HO_642002 := q_ (Kd.S_below (ks_ HO_642002.out) hb); replace HO651 := Aside0.mk True.intro; replace BK625 := q_ (bb_ BK625.out hb); replace BK641 := q_ (bb_ BK641.out hb); replace HB := q_ (below_step (b2_ HB.out GE625.out GE641.out) hb); (try clear hb)))
                 go_meet
                 case rel => exact ⟨_, (true), rs_, H', ⟨by have := HJ19.out; first | omega | exact Nat.le_refl _⟩, ⟨by (with_reducible repeat (first | apply Kd.R_alloc | apply Kd.R_drewN | apply Kd.R_drew)); exact HO_10.out⟩, ⟨by (with_reducible repeat (first | apply Kd.R_alloc | apply Kd.R_drewN | apply Kd.R_drew)); exact HO_13.out⟩, ⟨by (with_reducible repeat (first | apply Kd.S_alloc | apply Kd.S_drewN | apply Kd.S_drew)); exact Kd.S_mono HO_642002.out (fun _ hk => trivial)⟩, ⟨by (with_reducible repeat (first | refine blk_drewN ?_ _ | refine blk_drew ?_ | refine blk_alloc ?_ _)); exact BK625.out⟩, ⟨by (with_reducible repeat (first | refine blk_drewN ?_ _ | refine blk_drew ?_ | refine blk_alloc ?_ _)); exact BK641.out⟩, ⟨b2_ HB.out GE625.out GE641.out⟩⟩
                case rest =>
                 clear HC48
                 try clear c1
                 try clear c2
                 try clear p2
                 try clear c3
                 try clear c4
                 try clear c5
                 try clear c5b0
                 try clear c5b1
                 try clear c7
                 try clear c7b0
                 try clear c7b1
                 try clear c9
                 try clear c9b0
                 try clear c9b1
                 try clear c12
                 try clear c12b0
                 try clear c17
                 try clear c18
                 try clear c19
                 try clear c20
                 try clear c21
                 try clear c22
                 try clear c23
                 try clear c31
                 try clear c36
                 try clear c43
                 try clear c46
                 try clear c53
                 try clear c56
                 try clear c56b0
                 try clear c58
                 try clear hcz14_0
                 try clear hcz14_1
                 try clear hcz14_2
                 try clear hcz22_0
                 try clear hcz22_1
                 try clear hcz22_2
                 try clear hcz24_0
                 try clear hcz24_1
                 try clear hcz24_2
                 try clear hcz28_0
                 try clear hcz28_1
                 try clear hcz28_2
                 try clear hcz32_0
                 try clear hcz32_1
                 try clear hcz32_2
                 try clear hcz54_0
                 try clear hcz54_1
                 try clear hcz54_2
                 try clear hfz14_0
                 try clear hfz14_1
                 try clear hfz14_2
                 try clear hfz22_0
                 try clear hfz22_1
                 try clear hfz22_2
                 try clear hfz24_0
                 try clear hfz24_1
                 try clear hfz24_2
                 try clear hfz28_0
                 try clear hfz28_1
                 try clear hfz28_2
                 try clear hfz32_0
                 try clear hfz32_1
                 try clear hfz32_2
                 try clear hfz54_0
                 try clear hfz54_1
                 try clear hfz54_2
                 try clear p2
                 obtain ⟨kq, x82_47, rfl, HA, HJ47, HO_10, HO_13, HO_642002, BK625, BK641, HB⟩ := hcut
                 cases kq with
                 | zero => exact absurd HA.out (by simp [laws_FnExactCheckBetween.j1])
                 | succ kj47 =>
                  have H := HA.out
                  clear HA
                  simp only [laws_FnExactCheckBetween.j1] at H
                  by_cases c65 : x82_47 = true
                  · subst c65
                    rw [if_pos rfl] at H
                    obtain rfl := Option.some.inj H
                    go_wp2
                    go_ret
                    exact ⟨rf_, b2_ HB.out GE625.out GE641.out⟩
                  replace c65 := Bool.eq_false_iff.mpr c65
                  subst c65
                  rw [if_neg (show ¬ (false = true) by decide)] at H
                  replace H := Option.bind_eq_some_iff.mp H
                  obtain ⟨⟨t655, t656⟩, A660, H⟩ := H; try dsimp only at H
                  have A66 := Aside0.mk A660
                  clear A660
                  replace H := Option.bind_eq_some_iff.mp H
                  obtain ⟨t657, A670, H⟩ := H
                  have A67 := Aside0.mk A670
                  clear A670
                  by_cases c68 : t657 < 0
                  · rw [if_pos c68] at H
                    have c68b0 : decide (t657 < 0) = true := decide_eq_true c68
                    clear c68
                    obtain rfl := Option.some.inj H
                    obtain ⟨Ao69, co69, eo69⟩ := Kd.R_slice HO_13.out
                    subst eo69
                    go_wp2_with (first | ((with_reducible refine gate_callee (f := 24) rfl ?_); refine gl_ (some 85) Try.func24 #[.slice Ao69 t642.length co69, .int .i64 1] rfl al_ ?_; (with_reducible refine (laws_markPairS.calls kj47 (fun k_ => some k_ = (.slice Ao69 t642.length co69 : Value).ownBlock) (.slice Ao69 t642.length co69) t642 1 t655 t656 w _ ?side1 ?side2 A66.out).mono ?_); (case side1 => repeat (first | (with_reducible first | exact HB.out | apply below_alloc | apply pw_below_drewN | apply below_drew1 | refine below_set ?_ GE625.out | refine below_set ?_ GE641.out) | exact HB.out)); (case side2 => exact Kd.R_tight rfl HO_13.out); rintro e w70 ⟨rfl, hy0, hb, hkp⟩; refine ⟨_, rfl, ?_⟩; replace HO_10 := q_ (Kd.R_mono (ok' := fun k_ => some k_ ≠ (.slice Ao69 t642.length co69 : Value).ownBlock) (Kd.R_keptB (HO_10.out) hkp (fun k_ hk_ hs_ => (hk_) hs_)) (fun k_ hk_ => hk_.1)); replace HO_642002 := q_ (Kd.S_mono (ok' := fun k_ => True) (Kd.S_keptB ((Kd.S_apart' HO_642002.out (Kd.R_typed HO_13.out) (by decide))) hkp (fun k_ hk_ hs_ => (hk_.2) hs_)) (fun k_ hk_ => trivial)); replace BK625 := q_ (blk_kept (bk_ BK625.out) hkp (fun hs_ => (fun e_ => (Kd.R_ne HO_13.out BK625.out (by decide)) e_) hs_)); replace BK641 := q_ (blk_kept (bk_ BK641.out) hkp (fun hs_ => (fun e_ => (Kd.R_ne HO_13.out BK641.out (by decide)) e_) hs_)); replace HO_13 := q_ (Kd.R_reok rfl hy0 (fun k_ e_ => HO_13.out.1 k_ e_)); replace HB := q_ (hb); (try clear hb); (try clear hkp); (try clear hy0)) | ((with_reducible refine gate_callee (f := 25) rfl ?_); refine gl_ (some 88) Try.func25 #[.slice Ao69 t656.length co69, .int .i64 1] rfl (by (try simp only [List.map_toArray, List.map_cons, List.map_nil]); first | done | (rw [show t656.length = t642.length from (Kd.R_reads' HO_13.out).1.symm] <;> rfl) | rfl | (simp only [List.length_drop, List.length_take]; rfl)) ?_; (with_reducible refine (laws_heldPairS.calls kj47 _ _ t656 1 t657 _ ?side1 ?side2 A67.out).mono ?_); (case side1 => exact kc_ (Kd.R_reads' HO_13.out).2.2); (case side2 => rw [show t656.length = t642.length from (Kd.R_reads' HO_13.out).1.symm]; exact (Kd.R_reads' HO_13.out).2.1); rintro e w71 ⟨rfl, hb⟩; refine ⟨_, rfl, ?_⟩; replace HO_10 := q_ (Kd.R_below (kr_ HO_10.out) hb); replace HO_13 := q_ (Kd.R_below (kr_ HO_13.out) hb); replace HO_642002 := q_ (Kd.S_below (ks_ HO_642002.out) hb); replace BK625 := q_ (bb_ BK625.out hb); replace BK641 := q_ (bb_ BK641.out hb); replace HB := q_ (below_step (b2_ HB.out GE625.out GE641.out) hb); (try clear hb)))
                    go_ret
                    exact ⟨rf_, b2_ HB.out GE625.out GE641.out⟩
                  rw [if_neg c68] at H
                  have c68b0 : decide (t657 < 0) = false := decide_eq_false c68
                  clear c68
                  by_cases c72 : t657 = t655
                  rotate_left
                  · rw [if_neg c72] at H
                    have c72b0 : (t657 == t655) = false := beq_eq_false_iff_ne.mpr c72
                    have c72b1 : (t657 != t655) = true := bne_iff_ne.mpr c72
                    obtain rfl := Option.some.inj H
                    obtain ⟨Ao99, co99, eo99⟩ := Kd.R_slice HO_13.out
                    subst eo99
                    go_wp2_with (first | ((with_reducible refine gate_callee (f := 24) rfl ?_); refine gl_ (some 85) Try.func24 #[.slice Ao99 t642.length co99, .int .i64 1] rfl al_ ?_; (with_reducible refine (laws_markPairS.calls kj47 (fun k_ => some k_ = (.slice Ao99 t642.length co99 : Value).ownBlock) (.slice Ao99 t642.length co99) t642 1 t655 t656 w _ ?side1 ?side2 A66.out).mono ?_); (case side1 => repeat (first | (with_reducible first | exact HB.out | apply below_alloc | apply pw_below_drewN | apply below_drew1 | refine below_set ?_ GE625.out | refine below_set ?_ GE641.out) | exact HB.out)); (case side2 => exact Kd.R_tight rfl HO_13.out); rintro e w100 ⟨rfl, hy0, hb, hkp⟩; refine ⟨_, rfl, ?_⟩; replace HO_10 := q_ (Kd.R_mono (ok' := fun k_ => some k_ ≠ (.slice Ao99 t642.length co99 : Value).ownBlock) (Kd.R_keptB (HO_10.out) hkp (fun k_ hk_ hs_ => (hk_) hs_)) (fun k_ hk_ => hk_.1)); replace HO_642002 := q_ (Kd.S_mono (ok' := fun k_ => True) (Kd.S_keptB ((Kd.S_apart' HO_642002.out (Kd.R_typed HO_13.out) (by decide))) hkp (fun k_ hk_ hs_ => (hk_.2) hs_)) (fun k_ hk_ => trivial)); replace BK625 := q_ (blk_kept (bk_ BK625.out) hkp (fun hs_ => (fun e_ => (Kd.R_ne HO_13.out BK625.out (by decide)) e_) hs_)); replace BK641 := q_ (blk_kept (bk_ BK641.out) hkp (fun hs_ => (fun e_ => (Kd.R_ne HO_13.out BK641.out (by decide)) e_) hs_)); replace HO_13 := q_ (Kd.R_reok rfl hy0 (fun k_ e_ => HO_13.out.1 k_ e_)); replace HB := q_ (hb); (try clear hb); (try clear hkp); (try clear hy0)) | ((with_reducible refine gate_callee (f := 25) rfl ?_); refine gl_ (some 88) Try.func25 #[.slice Ao99 t656.length co99, .int .i64 1] rfl (by (try simp only [List.map_toArray, List.map_cons, List.map_nil]); first | done | (rw [show t656.length = t642.length from (Kd.R_reads' HO_13.out).1.symm] <;> rfl) | rfl | (simp only [List.length_drop, List.length_take]; rfl)) ?_; (with_reducible refine (laws_heldPairS.calls kj47 _ _ t656 1 t657 _ ?side1 ?side2 A67.out).mono ?_); (case side1 => exact kc_ (Kd.R_reads' HO_13.out).2.2); (case side2 => rw [show t656.length = t642.length from (Kd.R_reads' HO_13.out).1.symm]; exact (Kd.R_reads' HO_13.out).2.1); rintro e w101 ⟨rfl, hb⟩; refine ⟨_, rfl, ?_⟩; replace HO_10 := q_ (Kd.R_below (kr_ HO_10.out) hb); replace HO_13 := q_ (Kd.R_below (kr_ HO_13.out) hb); replace HO_642002 := q_ (Kd.S_below (ks_ HO_642002.out) hb); replace BK625 := q_ (bb_ BK625.out hb); replace BK641 := q_ (bb_ BK641.out hb); replace HB := q_ (below_step (b2_ HB.out GE625.out GE641.out) hb); (try clear hb)))
                    go_ret
                    exact ⟨rf_, b2_ HB.out GE625.out GE641.out⟩
                  rw [if_pos c72] at H
                  have c72b0 : (t657 == t655) = true := beq_iff_eq.mpr c72
                  have c72b1 : (t657 != t655) = false := bne_eq_false_iff_eq.mpr c72
                  clear c72
                  replace H := Option.bind_eq_some_iff.mp H
                  obtain ⟨⟨t658, t659, t660⟩, A730, H⟩ := H; try dsimp only at H
                  have A73 := Aside0.mk A730
                  clear A730
                  replace H := Option.bind_eq_some_iff.mp H
                  obtain ⟨⟨t663, t666⟩, A740, H⟩ := H; try dsimp only at H
                  have A74 := Aside0.mk A740
                  clear A740
                  have HC75 := Aside0.mk H
                  clear H
                  obtain ⟨Ao76, co76, eo76⟩ := Kd.R_slice HO_13.out
                  subst eo76
                  go_upto_region 31 with (first | ((with_reducible refine gate_callee (f := 24) rfl ?_); refine gl_ (some 85) Try.func24 #[.slice Ao76 t642.length co76, .int .i64 1] rfl al_ ?_; (with_reducible refine (laws_markPairS.calls kj47 (fun k_ => some k_ = (.slice Ao76 t642.length co76 : Value).ownBlock) (.slice Ao76 t642.length co76) t642 1 t655 t656 w _ ?side1 ?side2 A66.out).mono ?_); (case side1 => repeat (first | (with_reducible first | exact HB.out | apply below_alloc | apply pw_below_drewN | apply below_drew1 | refine below_set ?_ GE625.out | refine below_set ?_ GE641.out) | exact HB.out)); (case side2 => exact Kd.R_tight rfl HO_13.out); rintro e w77 ⟨rfl, hy0, hb, hkp⟩; refine ⟨_, rfl, ?_⟩; replace HO_10 := q_ (Kd.R_mono (ok' := fun k_ => some k_ ≠ (.slice Ao76 t642.length co76 : Value).ownBlock) (Kd.R_keptB (HO_10.out) hkp (fun k_ hk_ hs_ => (hk_) hs_)) (fun k_ hk_ => hk_.1)); replace HO_642002 := q_ (Kd.S_mono (ok' := fun k_ => True) (Kd.S_keptB ((Kd.S_apart' HO_642002.out (Kd.R_typed HO_13.out) (by decide))) hkp (fun k_ hk_ hs_ => (hk_.2) hs_)) (fun k_ hk_ => trivial)); replace BK625 := q_ (blk_kept (bk_ BK625.out) hkp (fun hs_ => (fun e_ => (Kd.R_ne HO_13.out BK625.out (by decide)) e_) hs_)); replace BK641 := q_ (blk_kept (bk_ BK641.out) hkp (fun hs_ => (fun e_ => (Kd.R_ne HO_13.out BK641.out (by decide)) e_) hs_)); replace HO_13 := q_ (Kd.R_reok rfl hy0 (fun k_ e_ => HO_13.out.1 k_ e_)); replace HB := q_ (hb); (try clear hb); (try clear hkp); (try clear hy0)) | ((with_reducible refine gate_callee (f := 25) rfl ?_); refine gl_ (some 88) Try.func25 #[.slice Ao76 t656.length co76, .int .i64 1] rfl (by (try simp only [List.map_toArray, List.map_cons, List.map_nil]); first | done | (rw [show t656.length = t642.length from (Kd.R_reads' HO_13.out).1.symm] <;> rfl) | rfl | (simp only [List.length_drop, List.length_take]; rfl)) ?_; (with_reducible refine (laws_heldPairS.calls kj47 _ _ t656 1 t657 _ ?side1 ?side2 A67.out).mono ?_); (case side1 => exact kc_ (Kd.R_reads' HO_13.out).2.2); (case side2 => rw [show t656.length = t642.length from (Kd.R_reads' HO_13.out).1.symm]; exact (Kd.R_reads' HO_13.out).2.1); rintro e w78 ⟨rfl, hb⟩; refine ⟨_, rfl, ?_⟩; replace HO_10 := q_ (Kd.R_below (kr_ HO_10.out) hb); replace HO_13 := q_ (Kd.R_below (kr_ HO_13.out) hb); replace HO_642002 := q_ (Kd.S_below (ks_ HO_642002.out) hb); replace BK625 := q_ (bb_ BK625.out hb); replace BK641 := q_ (bb_ BK641.out hb); replace HB := q_ (below_step (b2_ HB.out GE625.out GE641.out) hb); (try clear hb); have hnb79 := NB625_641.out; have hnc79 := NB641_625.out; obtain ⟨hcz80_0, hcz80_1, hcz80_2, hfz80_0, hfz80_1, hfz80_2⟩ := bx3_ BK625.out) | ((with_reducible refine gate_callee (f := 19) rfl ?_); refine gl_ (some 99) Try.func19 #[.agg #[.int .i64 a3_0, .int .i64 a3_1, .slice A3_2 l3_2.length c3_2]] rfl al_ ?_; (with_reducible refine (laws_toProof.calls kj47 a3_0 a3_1 _ _ l3_2 t658 t659 t660 _ ?side1 ?side2 A73.out).mono ?_); (case side1 => exact kc_ (Kd.C_below HR3_2.out HB.out)); (case side2 => exact HC3_2.out); rintro e w81 ⟨v661, rfl, ho0, hb⟩; refine ⟨_, rfl, ?_⟩; replace HO_10 := q_ (Kd.R_below (kr_ HO_10.out) hb); replace HO_13 := q_ (Kd.R_below (kr_ HO_13.out) hb); have HO662 := q_ (Kd.S_lower (Kd.S_new' ho0 (Kd.S_lt (ks_ HO_642002.out))) (below_size (b2_ HB.out GE625.out GE641.out))); replace HO_642002 := q_ (Kd.S_elder' (ks_ HO_642002.out) (Kd.S_base ho0) hb); replace BK625 := q_ (bb_ BK625.out hb); replace BK641 := q_ (bb_ BK641.out hb); replace HB := q_ (below_step (b2_ HB.out GE625.out GE641.out) hb); (try clear hb); (try clear ho0); obtain ⟨Ao82, co82, eo82⟩ := Kd.S_slice HO662.out; subst eo82) | ((with_reducible refine gate_callee (f := 20) rfl ?_); refine gl_ (some 100) Try.func20 #[.string a0, .string a1, .string a2, .agg #[.int .i64 t658, .int .i64 t659, .slice Ao82 t660.length co82]] rfl al_ ?_; (with_reducible refine (impl_CheckBetween.calls kj47 a0 a1 a2 t658 t659 _ _ t660 t663 t666 _ ?side1 ?side2 A74.out).mono ?_); (case side1 => repeat (first | exact (Kd.S_reads' HO662.out).2.2 | (with_reducible refine Kd.C_alloc ?_ _) | (with_reducible refine Kd.C_drewN ?_ _) | (with_reducible refine Kd.C_drew ?_))); (case side2 => exact (Kd.S_reads' HO662.out).2.1); rintro e w83 ⟨v664, rfl, ho0, hb⟩; refine ⟨_, rfl, ?_⟩; replace HO_642002 := q_ (Kd.S_below (ks_ HO_642002.out) hb); replace HO662 := q_ (Kd.S_below (ks_ HO662.out) hb); have HO665 := q_ (Kd.R_lower (Kd.R_new' (Kd.R_new' ho0 (Kd.R_lt (kr_ HO_10.out))) (Kd.R_lt (kr_ HO_13.out))) (below_size (b2_ HB.out GE625.out GE641.out))); replace HO_10 := q_ (Kd.R_elder' (kr_ HO_10.out) (Kd.R_base ho0) hb); replace HO_13 := q_ (Kd.R_elder' (kr_ HO_13.out) (Kd.R_base ho0) hb); replace BK625 := q_ (bb_ BK625.out hb); replace BK641 := q_ (bb_ BK641.out hb); replace HB := q_ (below_step (b2_ HB.out GE625.out GE641.out) hb); (try clear hb); (try clear ho0)))
                  (try simp only [Act.put, sa_, sz_, ss_])
                  go_cut [111] (fun v111 wc => ∃ (kq : Nat) (x111_74 : Bool), v111 = .bool x111_74 ∧ Aside0 (laws_FnExactCheckBetween.j2 kq t656 t655 x111_74 = some r) ∧ Aside0 (kq ≤ kj47) ∧ Aside0 (Kd.R k26 26 wc w.heap.size (fun _ => True) (.slice Ao76 t642.length co76) t656) ∧ Aside0 (Kd.S k63 63 wc w.heap.size (fun _ => True) (.slice Ao33 tm_.length co33) tm_) ∧ Aside0 (wc.heap[gb625]? = some (.cells #[.int .i64 a3_0, .int .i64 a3_1, (.slice A3_2 l3_2.length c3_2)] 38 (0, 0))) ∧ Aside0 (wc.heap[gb641]? = some (.cells #[.int .i64 t636, .int .i64 t637, (.slice Ao33 tm_.length co33)] 44 (0, 0))) ∧ Aside0 (Below w.heap.size w wc))
                  case first =>
                   have H := HC75.out
                   clear HC75
                   replace H := Option.bind_eq_some_iff.mp H
                   obtain ⟨t667, A840, H⟩ := H
                   have A84 := Aside0.mk A840
                   clear A840
                   by_cases c85 : t667 = true
                   · subst c85
                     rw [if_pos rfl] at H
                     have H' := Aside0.mk H
                     clear H
                     obtain ⟨Ao86, co86, eo86⟩ := Kd.R_slice HO665.out
                     subst eo86
                     obtain ⟨Ao87, co87, eo87⟩ := Kd.R_slice HO_10.out
                     subst eo87
                     go_wp2_with (first | ((with_reducible refine gate_callee (f := 21) rfl ?_); refine gl_ (some 105) Try.func21 #[.slice Ao86 t663.length co86, .slice Ao87 t632.length co87] rfl al_ ?_; (with_reducible refine (laws_eqPairS.calls kj47 _ _ t663 _ _ t632 true _ ?side1 ?side2 ?side3 ?side4 A84.out).mono ?_); (case side1 => exact kc_ (Kd.R_reads' HO665.out).2.2); (case side2 => exact (Kd.R_reads' HO665.out).2.1); (case side3 => exact kc_ (Kd.R_reads' HO_10.out).2.2); (case side4 => exact (Kd.R_reads' HO_10.out).2.1); rintro e w88 ⟨rfl, hb⟩; refine ⟨_, rfl, ?_⟩; replace HO_10 := q_ (Kd.R_below (kr_ HO_10.out) hb); replace HO_13 := q_ (Kd.R_below (kr_ HO_13.out) hb); replace HO_642002 := q_ (Kd.S_below (ks_ HO_642002.out) hb); replace HO662 := q_ (Kd.S_below (ks_ HO662.out) hb); replace HO665 := q_ (Kd.R_below (kr_ HO665.out) hb); replace BK625 := q_ (bb_ BK625.out hb); replace BK641 := q_ (bb_ BK641.out hb); replace HB := q_ (below_step (b2_ HB.out GE625.out GE641.out) hb); (try clear hb)))
                     go_meet
                     case rel => exact ⟨_, ((t666 != t635)), rs_, H', ⟨by have := HJ19.out; have := HJ47.out; first | omega | exact Nat.le_refl _⟩, ⟨by (with_reducible repeat (first | apply Kd.R_alloc | apply Kd.R_drewN | apply Kd.R_drew)); exact Kd.R_mono HO_13.out (fun _ hk => trivial)⟩, ⟨by (with_reducible repeat (first | apply Kd.S_alloc | apply Kd.S_drewN | apply Kd.S_drew)); exact Kd.S_mono HO_642002.out (fun _ hk => trivial)⟩, ⟨by (with_reducible repeat (first | refine blk_drewN ?_ _ | refine blk_drew ?_ | refine blk_alloc ?_ _)); exact BK625.out⟩, ⟨by (with_reducible repeat (first | refine blk_drewN ?_ _ | refine blk_drew ?_ | refine blk_alloc ?_ _)); exact BK641.out⟩, ⟨b2_ HB.out GE625.out GE641.out⟩⟩
                   replace c85 := Bool.eq_false_iff.mpr c85
                   subst c85
                   rw [if_neg (show ¬ (false = true) by decide)] at H
                   have H' := Aside0.mk H
                   clear H
                   obtain ⟨Ao89, co89, eo89⟩ := Kd.R_slice HO665.out
                   subst eo89
                   obtain ⟨Ao90, co90, eo90⟩ := Kd.R_slice HO_10.out
                   subst eo90
                   go_wp2_with (first | ((with_reducible refine gate_callee (f := 21) rfl ?_); refine gl_ (some 105) Try.func21 #[.slice Ao89 t663.length co89, .slice Ao90 t632.length co90] rfl al_ ?_; (with_reducible refine (laws_eqPairS.calls kj47 _ _ t663 _ _ t632 false _ ?side1 ?side2 ?side3 ?side4 A84.out).mono ?_); (case side1 => exact kc_ (Kd.R_reads' HO665.out).2.2); (case side2 => exact (Kd.R_reads' HO665.out).2.1); (case side3 => exact kc_ (Kd.R_reads' HO_10.out).2.2); (case side4 => exact (Kd.R_reads' HO_10.out).2.1); rintro e w91 ⟨rfl, hb⟩; refine ⟨_, rfl, ?_⟩; replace HO_10 := q_ (Kd.R_below (kr_ HO_10.out) hb); replace HO_13 := q_ (Kd.R_below (kr_ HO_13.out) hb); replace HO_642002 := q_ (Kd.S_below (ks_ HO_642002.out) hb); replace HO662 := q_ (Kd.S_below (ks_ HO662.out) hb); replace HO665 := q_ (Kd.R_below (kr_ HO665.out) hb); replace BK625 := q_ (bb_ BK625.out hb); replace BK641 := q_ (bb_ BK641.out hb); replace HB := q_ (below_step (b2_ HB.out GE625.out GE641.out) hb); (try clear hb)))
                   go_meet
                   case rel => exact ⟨_, (true), rs_, H', ⟨by have := HJ19.out; have := HJ47.out; first | omega | exact Nat.le_refl _⟩, ⟨by (with_reducible repeat (first | apply Kd.R_alloc | apply Kd.R_drewN | apply Kd.R_drew)); exact Kd.R_mono HO_13.out (fun _ hk => trivial)⟩, ⟨by (with_reducible repeat (first | apply Kd.S_alloc | apply Kd.S_drewN | apply Kd.S_drew)); exact Kd.S_mono HO_642002.out (fun _ hk => trivial)⟩, ⟨by (with_reducible repeat (first | refine blk_drewN ?_ _ | refine blk_drew ?_ | refine blk_alloc ?_ _)); exact BK625.out⟩, ⟨by (with_reducible repeat (first | refine blk_drewN ?_ _ | refine blk_drew ?_ | refine blk_alloc ?_ _)); exact BK641.out⟩, ⟨b2_ HB.out GE625.out GE641.out⟩⟩
                  case rest =>
                   clear HC75
                   try clear c1
                   try clear c2
                   try clear p2
                   try clear c3
                   try clear c4
                   try clear c5
                   try clear c5b0
                   try clear c5b1
                   try clear c6
                   try clear c7
                   try clear c7b0
                   try clear c7b1
                   try clear c8
                   try clear c9
                   try clear c9b0
                   try clear c9b1
                   try clear c12
                   try clear c12b0
                   try clear c17
                   try clear c18
                   try clear c19
                   try clear c20
                   try clear c21
                   try clear c22
                   try clear c23
                   try clear c24
                   try clear c25
                   try clear c31
                   try clear c36
                   try clear c43
                   try clear c46
                   try clear c53
                   try clear c56
                   try clear c56b0
                   try clear c58
                   try clear c65
                   try clear c68
                   try clear c68b0
                   try clear c72
                   try clear c72b0
                   try clear c72b1
                   try clear c79
                   try clear c85
                   try clear hcz14_0
                   try clear hcz14_1
                   try clear hcz14_2
                   try clear hcz22_0
                   try clear hcz22_1
                   try clear hcz22_2
                   try clear hcz24_0
                   try clear hcz24_1
                   try clear hcz24_2
                   try clear hcz28_0
                   try clear hcz28_1
                   try clear hcz28_2
                   try clear hcz32_0
                   try clear hcz32_1
                   try clear hcz32_2
                   try clear hcz54_0
                   try clear hcz54_1
                   try clear hcz54_2
                   try clear hcz80_0
                   try clear hcz80_1
                   try clear hcz80_2
                   try clear hfz14_0
                   try clear hfz14_1
                   try clear hfz14_2
                   try clear hfz22_0
                   try clear hfz22_1
                   try clear hfz22_2
                   try clear hfz24_0
                   try clear hfz24_1
                   try clear hfz24_2
                   try clear hfz28_0
                   try clear hfz28_1
                   try clear hfz28_2
                   try clear hfz32_0
                   try clear hfz32_1
                   try clear hfz32_2
                   try clear hfz54_0
                   try clear hfz54_1
                   try clear hfz54_2
                   try clear hfz80_0
                   try clear hfz80_1
                   try clear hfz80_2
                   try clear p2
                   obtain ⟨kq, x111_74, rfl, HA, HJ74, HO_13, HO_642002, BK625, BK641, HB⟩ := hcut
                   have hl13_74 := (Kd.R_reads' HO_13.out).1
                   rw [hl13_74] at HO_13
                   (try simp only [hl13_74])
                   (try simp only [hl13_74] at BK625)
                   (try simp only [hl13_74] at BK641)
                   (try simp only [hl13_74] at HO_642002)
                   cases kq with
                   | zero => exact absurd HA.out (by simp [laws_FnExactCheckBetween.j2])
                   | succ kj74 =>
                    have H := HA.out
                    clear HA
                    simp only [laws_FnExactCheckBetween.j2] at H
                    by_cases c92 : x111_74 = true
                    · subst c92
                      rw [if_pos rfl] at H
                      obtain rfl := Option.some.inj H
                      go_wp2
                      go_ret
                      exact ⟨rf_, b2_ HB.out GE625.out GE641.out⟩
                    replace c92 := Bool.eq_false_iff.mpr c92
                    subst c92
                    rw [if_neg (show ¬ (false = true) by decide)] at H
                    replace H := Option.bind_eq_some_iff.mp H
                    obtain ⟨t668, A930, H⟩ := H
                    have A93 := Aside0.mk A930
                    clear A930
                    by_cases c94 : t668 < 0
                    · rw [if_pos c94] at H
                      have c94b0 : decide (t668 < 0) = true := decide_eq_true c94
                      clear c94
                      obtain rfl := Option.some.inj H
                      go_wp2_with (first | ((with_reducible refine gate_callee (f := 25) rfl ?_); refine gl_ (some 114) Try.func25 #[.slice Ao76 t656.length co76, .int .i64 1] rfl al_ ?_; (with_reducible refine (laws_heldPairS.calls kj74 _ _ t656 1 t668 _ ?side1 ?side2 A93.out).mono ?_); (case side1 => exact kc_ (Kd.R_reads' HO_13.out).2.2); (case side2 => exact (Kd.R_reads' HO_13.out).2.1); rintro e w95 ⟨rfl, hb⟩; refine ⟨_, rfl, ?_⟩; replace HO_13 := q_ (Kd.R_below (kr_ HO_13.out) hb); replace HO_642002 := q_ (Kd.S_below (ks_ HO_642002.out) hb); replace BK625 := q_ (bb_ BK625.out hb); replace BK641 := q_ (bb_ BK641.out hb); replace HB := q_ (below_step (b2_ HB.out GE625.out GE641.out) hb); (try clear hb)))
                      go_ret
                      exact ⟨rf_, b2_ HB.out GE625.out GE641.out⟩
                    rw [if_neg c94] at H
                    have c94b0 : decide (t668 < 0) = false := decide_eq_false c94
                    clear c94
                    by_cases c96 : t668 = t655
                    rotate_left
                    · rw [if_neg c96] at H
                      have c96b0 : (t668 == t655) = false := beq_eq_false_iff_ne.mpr c96
                      have c96b1 : (t668 != t655) = true := bne_iff_ne.mpr c96
                      obtain rfl := Option.some.inj H
                      go_wp2_with (first | ((with_reducible refine gate_callee (f := 25) rfl ?_); refine gl_ (some 114) Try.func25 #[.slice Ao76 t656.length co76, .int .i64 1] rfl al_ ?_; (with_reducible refine (laws_heldPairS.calls kj74 _ _ t656 1 t668 _ ?side1 ?side2 A93.out).mono ?_); (case side1 => exact kc_ (Kd.R_reads' HO_13.out).2.2); (case side2 => exact (Kd.R_reads' HO_13.out).2.1); rintro e w98 ⟨rfl, hb⟩; refine ⟨_, rfl, ?_⟩; replace HO_13 := q_ (Kd.R_below (kr_ HO_13.out) hb); replace HO_642002 := q_ (Kd.S_below (ks_ HO_642002.out) hb); replace BK625 := q_ (bb_ BK625.out hb); replace BK641 := q_ (bb_ BK641.out hb); replace HB := q_ (below_step (b2_ HB.out GE625.out GE641.out) hb); (try clear hb)))
                      go_ret
                      exact ⟨rf_, b2_ HB.out GE625.out GE641.out⟩
                    rw [if_pos c96] at H
                    have c96b0 : (t668 == t655) = true := beq_iff_eq.mpr c96
                    have c96b1 : (t668 != t655) = false := bne_eq_false_iff_eq.mpr c96
                    clear c96
                    obtain rfl := Option.some.inj H
                    go_wp2_with (first | ((with_reducible refine gate_callee (f := 25) rfl ?_); refine gl_ (some 114) Try.func25 #[.slice Ao76 t656.length co76, .int .i64 1] rfl al_ ?_; (with_reducible refine (laws_heldPairS.calls kj74 _ _ t656 1 t668 _ ?side1 ?side2 A93.out).mono ?_); (case side1 => exact kc_ (Kd.R_reads' HO_13.out).2.2); (case side2 => exact (Kd.R_reads' HO_13.out).2.1); rintro e w97 ⟨rfl, hb⟩; refine ⟨_, rfl, ?_⟩; replace HO_13 := q_ (Kd.R_below (kr_ HO_13.out) hb); replace HO_642002 := q_ (Kd.S_below (ks_ HO_642002.out) hb); replace BK625 := q_ (bb_ BK625.out hb); replace BK641 := q_ (bb_ BK641.out hb); replace HB := q_ (below_step (b2_ HB.out GE625.out GE641.out) hb); (try clear hb)))
                    go_ret
                    exact ⟨rf_, b2_ HB.out GE625.out GE641.out⟩
              · replace c46 := Bool.eq_false_iff.mpr c46
                subst c46
                rw [if_neg (show ¬ (false = true) by decide)] at H
                obtain rfl := Option.some.inj H
                try go_wp2
                replace HO_10 := q_ (Kd.R_drew HO_10.out)
                replace HO_13 := q_ (Kd.R_drew HO_13.out)
                replace HO_642002 := q_ (Kd.S_drew HO_642002.out)
                replace BK625 := q_ (blk_drew BK625.out)
                replace BK641 := q_ (blk_drew BK641.out)
                replace HB := q_ (below_drew1 HB.out)
                refine start_ (n := 5) (S := fun w' => w'.cell? ⟨gb641, 0, none⟩ = some (.int .i64 t636) ∧ w'.cell? ⟨gb641, 1, none⟩ = some (.int .i64 t637) ∧ w'.cell? ⟨gb641, 2, none⟩ = some (.slice Ao33 t638.length co33) ∧ w'.cell? ⟨gb625, 0, none⟩ = some (.int .i64 a3_0) ∧ w'.cell? ⟨gb625, 1, none⟩ = some (.int .i64 a3_1) ∧ w'.cell? ⟨gb625, 2, none⟩ = some (.slice A3_2 l3_2.length c3_2)) (ds := []) (bq_ 0 5) (by kernel_rfl) rfl rfl ⟨(blk_cell BK641.out 0).trans rfl, (blk_cell BK641.out 1).trans rfl, (blk_cell BK641.out 2).trans rfl, (blk_cell BK625.out 0).trans rfl, (blk_cell BK625.out 1).trans rfl, (blk_cell BK625.out 2).trans rfl⟩ (fun hHeld => ?_)
                generalize wc.drew = w102 at HO_10 HO_13 HO_642002 BK625 BK641 HB hHeld ⊢
                refine take_ (i := 0) (N := some 62) (v := ?_) (a' := ?_) (bq_ 1 4) rfl rfl (by kernel_rfl) (fun _ _ _ h => h) (Or.inl ⟨by rfl, ?_⟩) hHeld ?_ ?_
                rotate_left
                · rintro w' ⟨s0, s1, s2, s3, s4, s5⟩
                  go_simp
                  with_reducible rfl
                rotate_left
                · simp only [Act.put, sa_, sz_, ss_, i64_w, i32_w]; rfl
                refine take_ (i := 1) (N := some 63) (v := ?_) (a' := ?_) (bq_ 2 3) rfl rfl (by kernel_rfl) (fun _ _ _ h => h) (Or.inl ⟨by rfl, ?_⟩) hHeld ?_ ?_
                rotate_left
                · rintro w' ⟨s0, s1, s2, s3, s4, s5⟩
                  go_simp
                  with_reducible rfl
                rotate_left
                · simp only [Act.put, sa_, sz_, ss_, i64_w, i32_w]; rfl
                refine one_ (i := 2) (N := some 64) (bq_ 3 2) rfl rfl (by kernel_rfl) (by decide) (fun K hK => ?_)
                refine goes_ Try.func19 (by kernel_rfl) rfl #[.agg #[.int .i64 a3_0, .int .i64 a3_1, .slice A3_2 l3_2.length c3_2]] (by rfl) rfl rfl al_ ?_
                with_reducible refine (laws_toProof.calls kj19 a3_0 a3_1 _ _ l3_2 t647 t648 t649 _ ?side1 ?side2 A44.out).mono ?_
                (case side1 => exact kc_ (Kd.C_below HR3_2.out HB.out))
                (case side2 => exact HC3_2.out)
                rintro e w103 ⟨v650, rfl, ho0, hb⟩
                refine ⟨_, rfl, ?_⟩
                replace HO_10 := q_ (Kd.R_below (kr_ HO_10.out) hb)
                replace HO_13 := q_ (Kd.R_below (kr_ HO_13.out) hb)
                have HO651 := q_ (Kd.S_lower (Kd.S_new' ho0 (Kd.S_lt (ks_ HO_642002.out))) (below_size (b2_ HB.out GE625.out GE641.out)))
                replace HO_642002 := q_ (Kd.S_elder' (ks_ HO_642002.out) (Kd.S_base ho0) hb)
                replace BK625 := q_ (bb_ BK625.out hb)
                replace BK641 := q_ (bb_ BK641.out hb)
                replace HB := q_ (below_step (b2_ HB.out GE625.out GE641.out) hb)
                (try clear hb)
                (try clear hb2)
                (try clear hk)
                (try clear hi)
                (try clear ho0)
                obtain ⟨Ao104, co104, eo104⟩ := Kd.S_slice HO651.out
                (first | subst eo104 | (injection eo104 with f1_ f2_ f3_; have f4_ := f1_.symm; have f5_ := f3_.symm; clear f1_ f2_ f3_; subst f4_; subst f5_))
                refine hK.out _ _ ⟨(blk_cell BK641.out 0).trans rfl, (blk_cell BK641.out 1).trans rfl, (blk_cell BK641.out 2).trans rfl, (blk_cell BK625.out 0).trans rfl, (blk_cell BK625.out 1).trans rfl, (blk_cell BK625.out 2).trans rfl⟩ (fun hHeld => ?_)
                clear hK K
                refine nm_ ?_
                refine one_ (i := 3) (N := some 65) (bq_ 4 1) rfl rfl (by kernel_rfl) (by decide) (fun K hK => ?_)
                refine goes_ Try.func22 (by kernel_rfl) rfl #[.agg #[.int .i64 t636, .int .i64 t637, .slice Ao33 t638.length co33], .agg #[.int .i64 t647, .int .i64 t648, .slice Ao104 t649.length co104]] (by rfl) rfl rfl al_ ?_
                with_reducible refine (laws_eqProof.calls kj19 t636 t637 _ _ t638 t647 t648 _ _ t649 false _ ?side1 ?side2 ?side3 ?side4 A45.out).mono ?_
                (case side1 => repeat (first | exact (Kd.S_reads' HO_642002.out).2.2 | (with_reducible refine Kd.C_alloc ?_ _) | (with_reducible refine Kd.C_drewN ?_ _) | (with_reducible refine Kd.C_drew ?_)))
                (case side2 => exact (Kd.S_reads' HO_642002.out).2.1)
                (case side3 => repeat (first | exact (Kd.S_reads' HO651.out).2.2 | (with_reducible refine Kd.C_alloc ?_ _) | (with_reducible refine Kd.C_drewN ?_ _) | (with_reducible refine Kd.C_drew ?_)))
                (case side4 => exact (Kd.S_reads' HO651.out).2.1)
                rintro e w105 ⟨rfl, hb⟩
                refine ⟨_, rfl, ?_⟩
                replace HO_10 := q_ (Kd.R_below (kr_ HO_10.out) hb)
                replace HO_13 := q_ (Kd.R_below (kr_ HO_13.out) hb)
                replace HO_642002 := q_ (Kd.S_below (ks_ HO_642002.out) hb)
                replace HO651 := q_ (Kd.S_below (ks_ HO651.out) hb)
                replace BK625 := q_ (bb_ BK625.out hb)
                replace BK641 := q_ (bb_ BK641.out hb)
                replace HB := q_ (below_step (b2_ HB.out GE625.out GE641.out) hb)
                (try clear hb)
                (try clear hb2)
                (try clear hk)
                (try clear hi)
                refine hK.out _ _ ⟨(blk_cell BK641.out 0).trans rfl, (blk_cell BK641.out 1).trans rfl, (blk_cell BK641.out 2).trans rfl, (blk_cell BK625.out 0).trans rfl, (blk_cell BK625.out 1).trans rfl, (blk_cell BK625.out 2).trans rfl⟩ (fun hHeld => ?_)
                clear hK K
                refine nm_ ?_
                refine pure_ (i := 4) (N := some 66) (v := ?_) (a' := ?_) (bq_ 5 0) rfl rfl (by kernel_rfl) (fun _ _ _ h => h) (Or.inl ⟨by rfl, ?_⟩) ?_ ?_
                rotate_left
                · intro w'; go_simp; with_reducible rfl
                rotate_left
                · simp only [Act.put, sa_, sz_, ss_, i64_w, i32_w]; rfl
                refine done_ (by kernel_rfl) ?_
                try go_wp2
                go_ret
                exact ⟨rf_, b2_ HB.out GE625.out GE641.out⟩

end Go.Proofs.Ytgaalomhipfgjaa.P
