-- Written by wip/xp/xp.py over the kit's print; Lean checks it.
import Derived.Test.YtgaalomhipfgjaaPx0
import Derived.Test.YtgaalomhipfgjaaPx5
import Derived.Test.YtgaalomhipfgjaaPx12
import Derived.Test.YtgaalomhipfgjaaPx13
namespace Go.Proofs.Ytgaalomhipfgjaa.P
open Go.RowKit Go.Proofs.YtgaalomhipfgjaaW.PrintWords Go.Proofs.YtgaalomhipfgjaaW.PrintLast Go.Proofs.YtgaalomhipfgjaaW.PrintMore
attribute [local go_sem] max2_int min2_int max_two min_two max_three min_three max_four min_four   -- for this text's walks alone
set_option linter.unusedVariables false
set_option linter.unusedSimpArgs false

/-! ###  laws_FnExactPartAt: function 8 -/
def laws_FnExactPartAt.j0 : Nat → List (S66) → List ByteArray → List (S26) → List ByteArray → Bool → Option (Bool)
  | 0, _, _, _, _, _ => none
  | k + 1, x0, x4, x15, x16, x75 => if x75 = true then (some false) else ((laws_toPairS.f k x0).bind fun t655 => ((laws_eqPairS.f k x15 t655).bind fun t658 => (if t658 = true then ((laws_toStringS.f k x4).bind fun t659 => ((laws_eqStringS.f k x16 t659).bind fun t662 => (if t662 = true then (some true) else (some false)))) else (some false))))
def laws_FnExactPartAt.f (k : Nat) (l0 : List (S66)) (a1_0 : ByteArray) (a1_1 : ByteArray) (a2 : Int) (a3 : Int) (l4 : List ByteArray) : Option (Bool) := (laws_szPairS.f k l0 1048576).bind fun t630 => (if t630 < 0 then (some true) else ((laws_szPair.f a1_0 a1_1 t630).bind fun t631 => (if t631 < 0 then (some true) else ((laws_szStringS.f k l4 t631).bind fun t632 => (if t632 < 0 then (some true) else ((laws_toPairS.f k l0).bind fun t633 => ((laws_toPair.f a1_0 a1_1).bind fun bt636 => ((laws_toStringS.f k l4).bind fun t638 => ((spec_PartAt.f k t633 bt636.1 bt636.2 a2 a3 t638).bind fun bt641 => ((laws_toPairS.f k l0).bind fun t644 => ((laws_toStringS.f k l4).bind fun t647 => ((laws_toPair.f a1_0 a1_1).bind fun bt650 => ((impl_PartAt.f k t644 bt650.1 bt650.2 a2 a3 t647).bind fun bt652 => (if bt652.1.toList = bt641.1.toList then (if bt652.2.1.toList = bt641.2.1.toList then (laws_FnExactPartAt.j0 k l0 l4 t644 t647 (bt652.2.2 != bt641.2.2)) else (laws_FnExactPartAt.j0 k l0 l4 t644 t647 true)) else (laws_FnExactPartAt.j0 k l0 l4 t644 t647 true)))))))))))))))
def laws_FnExactPartAt.T11 : Bool × List (List Nat × List Nat) := (true, [([], []), ([0], [0]), ([], []), ([2, 1], [2]), ([], []), ([], []), ([], []), ([6, 3], [6]), ([1, 3, 4, 5, 7, 7], [1, 3, 4, 5, 7]), ([8], [8]), ([9], [9]), ([9], [9]), ([9], [9]), ([10, 8, 0, 1, 2, 3, 4, 5, 6, 7, 8, 9, 10], [10]), ([11, 13, 0, 1, 2, 3, 4, 5, 6, 7, 8, 9, 10, 11, 13], [11]), ([12, 14, 0, 1, 2, 3, 4, 5, 6, 7, 8, 9, 10, 11, 12, 13, 14], [12])])
def laws_FnExactPartAt.B11 : List Nat := [0, 1, 0, 7, 0, 0, 0, 79, 255, 511, 1023, 1023, 1023, 2047, 12287, 32767]
theorem laws_FnExactPartAt.tab11 : rtab .any (opsOf Try.f8 11) = laws_FnExactPartAt.T11 := by kernel_rfl
theorem laws_FnExactPartAt.bits11 : waitsOk laws_FnExactPartAt.T11.2 laws_FnExactPartAt.B11 = true := by kernel_rfl
set_option maxHeartbeats 8000000 in
set_option maxRecDepth 100000 in
theorem laws_FnExactPartAt.calls (k : Nat) (A0 : Option Addr) (c0 : Nat) (l0 : List (S66)) (a1_0 : ByteArray) (a1_1 : ByteArray) (a2 : Int) (a3 : Int) (A4 : Option Addr) (c4 : Nat) (l4 : List ByteArray) (r : Bool) (w : World) (hr0 : Kd.C k66 w A0 l0.length l0) (hc0 : l0.length ≤ c0) (hr4 : Kd.C Kd.string w A4 l4.length l4) (hc4 : l4.length ≤ c4) (h : laws_FnExactPartAt.f k l0 a1_0 a1_1 a2 a3 l4 = some r) :
  Calls Try.prog 8 #[.slice A0 l0.length c0, .agg #[.string a1_0, .string a1_1], .int .i64 a2, .int .i64 a3, .slice A4 l4.length c4] w fun e w' => e = .returned (.bool r) ∧ Below w.heap.size w w' := by
  have hu66 := Try.underlying66
  have HR0 := Aside0.mk hr0
  have HC0 := Aside0.mk hc0
  clear hr0 hc0
  have HR4 := Aside0.mk hr4
  have HC4 := Aside0.mk hc4
  clear hr4 hc4
  have HB := Aside0.mk (Below.refl w.heap.size w)
  have H : ((laws_szPairS.f k l0 1048576).bind fun t630 => (if t630 < 0 then (some true) else ((laws_szPair.f a1_0 a1_1 t630).bind fun t631 => (if t631 < 0 then (some true) else ((laws_szStringS.f k l4 t631).bind fun t632 => (if t632 < 0 then (some true) else ((laws_toPairS.f k l0).bind fun t633 => ((laws_toPair.f a1_0 a1_1).bind fun bt636 => ((laws_toStringS.f k l4).bind fun t638 => ((spec_PartAt.f k t633 bt636.1 bt636.2 a2 a3 t638).bind fun bt641 => ((laws_toPairS.f k l0).bind fun t644 => ((laws_toStringS.f k l4).bind fun t647 => ((laws_toPair.f a1_0 a1_1).bind fun bt650 => ((impl_PartAt.f k t644 bt650.1 bt650.2 a2 a3 t647).bind fun bt652 => (if bt652.1.toList = bt641.1.toList then (if bt652.2.1.toList = bt641.2.1.toList then (laws_FnExactPartAt.j0 k l0 l4 t644 t647 (bt652.2.2 != bt641.2.2)) else (laws_FnExactPartAt.j0 k l0 l4 t644 t647 true)) else (laws_FnExactPartAt.j0 k l0 l4 t644 t647 true)))))))))))))))) = some r := h
  clear h
  replace H := Option.bind_eq_some_iff.mp H
  obtain ⟨t630, A60, H⟩ := H
  have A6 := Aside0.mk A60
  clear A60
  by_cases c7 : t630 < 0
  · rw [if_pos c7] at H
    have c7b0 : decide (t630 < 0) = true := decide_eq_true c7
    clear c7
    obtain rfl := Option.some.inj H
    go_enter Try.func8, Try.ntmps8
    go_wp2_with (first | ((with_reducible refine gate_dst (N := 6) rfl ?_); refine box_event ?hg (N := 6) ?hd (cs := #[.string a1_0, .string a1_1]) (t := 66) ?hr ?_; (case hd => rfl); (case hg => rfl); (case hr => first | (go_simp; done) | (go_simp; rfl)); intro gb629 hg w8 hbox hb; have n0_ := Aside0.mk (below_step (be_ HB.out) hb); have n1_ := Aside0.mk (hbox); have n2_ := Aside0.mk ((by rw [hg]; exact (below_size (be_ HB.out)) : w.heap.size ≤ gb629)); have n3_ := Aside0.mk ((by rw [hg]; exact (below_size (be_ HB.out)) : w.heap.size ≤ gb629)); clear HB; have HB := n0_; have BK629 := n1_; have GW629 := n2_; have GE629 := n3_; clear n0_ n1_ n2_ n3_; clear hb hbox hg) | ((with_reducible refine gate_callee (f := 39) rfl ?_); refine goesL_ (some 22) rfl rfl Try.func39 (by kernel_rfl) rfl #[.slice A0 l0.length c0, .int .i64 1048576] rfl al_ ?_; (with_reducible refine (laws_szPairS.calls k _ _ l0 1048576 t630 _ ?side1 ?side2 A6.out).mono ?_); (case side1 => exact kc_ (Kd.C_below HR0.out HB.out)); (case side2 => exact HC0.out); rintro e w9 ⟨rfl, hb⟩; refine ⟨_, rfl, ?_⟩; have n0_ := Aside0.mk (blk_below (g := gb629) (o := .cells #[.string a1_0, .string a1_1] 66 (0, 0)) (bk_ BK629.out) hb); have n1_ := Aside0.mk (below_step (bs_ HB.out GE629.out) hb); clear BK629; clear HB; have BK629 := n0_; have HB := n1_; clear n0_ n1_; (try clear hb); (try clear hb2); (try clear hk); (try clear hi)))
    go_ret
    exact ⟨by first | rfl | (simp [errW_none, errW_some] <;> rfl) | (simp [*, errW_none, errW_some] <;> rfl), bs_ HB.out GE629.out⟩
  · rw [if_neg c7] at H
    have c7b0 : decide (t630 < 0) = false := decide_eq_false c7
    clear c7
    replace H := Option.bind_eq_some_iff.mp H
    obtain ⟨t631, A100, H⟩ := H
    have A10 := Aside0.mk A100
    clear A100
    by_cases c11 : t631 < 0
    · rw [if_pos c11] at H
      have c11b0 : decide (t631 < 0) = true := decide_eq_true c11
      clear c11
      obtain rfl := Option.some.inj H
      go_enter Try.func8, Try.ntmps8
      go_wp2_with (first | ((with_reducible refine gate_dst (N := 6) rfl ?_); refine box_event ?hg (N := 6) ?hd (cs := #[.string a1_0, .string a1_1]) (t := 66) ?hr ?_; (case hd => rfl); (case hg => rfl); (case hr => first | (go_simp; done) | (go_simp; rfl)); intro gb629 hg w12 hbox hb; have n0_ := Aside0.mk (below_step (be_ HB.out) hb); have n1_ := Aside0.mk (hbox); have n2_ := Aside0.mk ((by rw [hg]; exact (below_size (be_ HB.out)) : w.heap.size ≤ gb629)); have n3_ := Aside0.mk ((by rw [hg]; exact (below_size (be_ HB.out)) : w.heap.size ≤ gb629)); clear HB; have HB := n0_; have BK629 := n1_; have GW629 := n2_; have GE629 := n3_; clear n0_ n1_ n2_ n3_; clear hb hbox hg) | ((with_reducible refine gate_callee (f := 39) rfl ?_); refine goesL_ (some 22) rfl rfl Try.func39 (by kernel_rfl) rfl #[.slice A0 l0.length c0, .int .i64 1048576] rfl al_ ?_; (with_reducible refine (laws_szPairS.calls k _ _ l0 1048576 t630 _ ?side1 ?side2 A6.out).mono ?_); (case side1 => exact kc_ (Kd.C_below HR0.out HB.out)); (case side2 => exact HC0.out); rintro e w13 ⟨rfl, hb⟩; refine ⟨_, rfl, ?_⟩; have n0_ := Aside0.mk (blk_below (g := gb629) (o := .cells #[.string a1_0, .string a1_1] 66 (0, 0)) (bk_ BK629.out) hb); have n1_ := Aside0.mk (below_step (bs_ HB.out GE629.out) hb); clear BK629; clear HB; have BK629 := n0_; have HB := n1_; clear n0_ n1_; (try clear hb); (try clear hb2); (try clear hk); (try clear hi); have hcz14_0 : w13.cell? ⟨gb629, 0, none⟩ = some (.string a1_0) := (blk_cell BK629.out 0).trans rfl; have hcz14_1 : w13.cell? ⟨gb629, 1, none⟩ = some (.string a1_1) := (blk_cell BK629.out 1).trans rfl; have hfz14_0 := blk_frozen BK629.out 0; have hfz14_1 := blk_frozen BK629.out 1) | ((with_reducible refine gate_callee (f := 40) rfl ?_); refine goesL_ (some 27) rfl rfl Try.func40 (by kernel_rfl) rfl #[.agg #[.string a1_0, .string a1_1], .int .i64 t630] rfl al_ ?_; (with_reducible refine (laws_szPair.calls a1_0 a1_1 t630 t631 _ A10.out).mono ?_); rintro e w15 ⟨rfl, hb⟩; refine ⟨_, rfl, ?_⟩; have n0_ := Aside0.mk (blk_below (g := gb629) (o := .cells #[.string a1_0, .string a1_1] 66 (0, 0)) (bk_ BK629.out) hb); have n1_ := Aside0.mk (below_step (bs_ HB.out GE629.out) hb); clear BK629; clear HB; have BK629 := n0_; have HB := n1_; clear n0_ n1_; (try clear hb); (try clear hb2); (try clear hk); (try clear hi)))
      go_ret
      exact ⟨by first | rfl | (simp [errW_none, errW_some] <;> rfl) | (simp [*, errW_none, errW_some] <;> rfl), bs_ HB.out GE629.out⟩
    · rw [if_neg c11] at H
      have c11b0 : decide (t631 < 0) = false := decide_eq_false c11
      clear c11
      replace H := Option.bind_eq_some_iff.mp H
      obtain ⟨t632, A160, H⟩ := H
      have A16 := Aside0.mk A160
      clear A160
      by_cases c17 : t632 < 0
      · rw [if_pos c17] at H
        have c17b0 : decide (t632 < 0) = true := decide_eq_true c17
        clear c17
        obtain rfl := Option.some.inj H
        go_enter Try.func8, Try.ntmps8
        go_wp2_with (first | ((with_reducible refine gate_dst (N := 6) rfl ?_); refine box_event ?hg (N := 6) ?hd (cs := #[.string a1_0, .string a1_1]) (t := 66) ?hr ?_; (case hd => rfl); (case hg => rfl); (case hr => first | (go_simp; done) | (go_simp; rfl)); intro gb629 hg w18 hbox hb; have n0_ := Aside0.mk (below_step (be_ HB.out) hb); have n1_ := Aside0.mk (hbox); have n2_ := Aside0.mk ((by rw [hg]; exact (below_size (be_ HB.out)) : w.heap.size ≤ gb629)); have n3_ := Aside0.mk ((by rw [hg]; exact (below_size (be_ HB.out)) : w.heap.size ≤ gb629)); clear HB; have HB := n0_; have BK629 := n1_; have GW629 := n2_; have GE629 := n3_; clear n0_ n1_ n2_ n3_; clear hb hbox hg) | ((with_reducible refine gate_callee (f := 39) rfl ?_); refine goesL_ (some 22) rfl rfl Try.func39 (by kernel_rfl) rfl #[.slice A0 l0.length c0, .int .i64 1048576] rfl al_ ?_; (with_reducible refine (laws_szPairS.calls k _ _ l0 1048576 t630 _ ?side1 ?side2 A6.out).mono ?_); (case side1 => exact kc_ (Kd.C_below HR0.out HB.out)); (case side2 => exact HC0.out); rintro e w19 ⟨rfl, hb⟩; refine ⟨_, rfl, ?_⟩; have n0_ := Aside0.mk (blk_below (g := gb629) (o := .cells #[.string a1_0, .string a1_1] 66 (0, 0)) (bk_ BK629.out) hb); have n1_ := Aside0.mk (below_step (bs_ HB.out GE629.out) hb); clear BK629; clear HB; have BK629 := n0_; have HB := n1_; clear n0_ n1_; (try clear hb); (try clear hb2); (try clear hk); (try clear hi); have hcz20_0 : w19.cell? ⟨gb629, 0, none⟩ = some (.string a1_0) := (blk_cell BK629.out 0).trans rfl; have hcz20_1 : w19.cell? ⟨gb629, 1, none⟩ = some (.string a1_1) := (blk_cell BK629.out 1).trans rfl; have hfz20_0 := blk_frozen BK629.out 0; have hfz20_1 := blk_frozen BK629.out 1) | ((with_reducible refine gate_callee (f := 40) rfl ?_); refine goesL_ (some 27) rfl rfl Try.func40 (by kernel_rfl) rfl #[.agg #[.string a1_0, .string a1_1], .int .i64 t630] rfl al_ ?_; (with_reducible refine (laws_szPair.calls a1_0 a1_1 t630 t631 _ A10.out).mono ?_); rintro e w21 ⟨rfl, hb⟩; refine ⟨_, rfl, ?_⟩; have n0_ := Aside0.mk (blk_below (g := gb629) (o := .cells #[.string a1_0, .string a1_1] 66 (0, 0)) (bk_ BK629.out) hb); have n1_ := Aside0.mk (below_step (bs_ HB.out GE629.out) hb); clear BK629; clear HB; have BK629 := n0_; have HB := n1_; clear n0_ n1_; (try clear hb); (try clear hb2); (try clear hk); (try clear hi)) | ((with_reducible refine gate_callee (f := 41) rfl ?_); refine goesL_ (some 32) rfl rfl Try.func41 (by kernel_rfl) rfl #[.slice A4 l4.length c4, .int .i64 t631] rfl al_ ?_; (with_reducible refine (laws_szStringS.calls k _ _ l4 t631 t632 _ ?side1 ?side2 A16.out).mono ?_); (case side1 => exact kc_ (Kd.C_below HR4.out HB.out)); (case side2 => exact HC4.out); rintro e w' ⟨rfl, ⟨nd, rfl⟩⟩; refine ⟨_, rfl, ?_⟩))
        go_ret
        exact ⟨by first | rfl | (simp [errW_none, errW_some] <;> rfl) | (simp [*, errW_none, errW_some] <;> rfl), bs_ HB.out GE629.out⟩
      · rw [if_neg c17] at H
        have c17b0 : decide (t632 < 0) = false := decide_eq_false c17
        clear c17
        replace H := Option.bind_eq_some_iff.mp H
        obtain ⟨t633, A220, H⟩ := H
        have A22 := Aside0.mk A220
        clear A220
        replace H := Option.bind_eq_some_iff.mp H
        obtain ⟨⟨t636, t637⟩, A230, H⟩ := H; try dsimp only at H
        have A23 := Aside0.mk A230
        clear A230
        replace H := Option.bind_eq_some_iff.mp H
        obtain ⟨t638, A240, H⟩ := H
        have A24 := Aside0.mk A240
        clear A240
        replace H := Option.bind_eq_some_iff.mp H
        obtain ⟨⟨t641, t642, t643⟩, A250, H⟩ := H; try dsimp only at H
        have A25 := Aside0.mk A250
        clear A250
        replace H := Option.bind_eq_some_iff.mp H
        obtain ⟨t644, A260, H⟩ := H
        have A26 := Aside0.mk A260
        clear A260
        replace H := Option.bind_eq_some_iff.mp H
        obtain ⟨t647, A270, H⟩ := H
        have A27 := Aside0.mk A270
        clear A270
        replace H := Option.bind_eq_some_iff.mp H
        obtain ⟨⟨t650, t651⟩, A280, H⟩ := H; try dsimp only at H
        have A28 := Aside0.mk A280
        clear A280
        replace H := Option.bind_eq_some_iff.mp H
        obtain ⟨⟨t652, t653, t654⟩, A290, H⟩ := H; try dsimp only at H
        have A29 := Aside0.mk A290
        clear A290
        have HC30 := Aside0.mk H
        clear H
        go_enter Try.func8, Try.ntmps8
        try go_wp2_with (first | ((with_reducible refine gate_dst (N := 6) rfl ?_); refine box_event ?hg (N := 6) ?hd (cs := #[.string a1_0, .string a1_1]) (t := 66) ?hr ?_; (case hd => rfl); (case hg => rfl); (case hr => first | (go_simp; done) | (go_simp; rfl)); intro gb629 hg w31 hbox hb; have n0_ := Aside0.mk (below_step (be_ HB.out) hb); have n1_ := Aside0.mk (hbox); have n2_ := Aside0.mk ((by rw [hg]; exact (below_size (be_ HB.out)) : w.heap.size ≤ gb629)); have n3_ := Aside0.mk ((by rw [hg]; exact (below_size (be_ HB.out)) : w.heap.size ≤ gb629)); clear HB; have HB := n0_; have BK629 := n1_; have GW629 := n2_; have GE629 := n3_; clear n0_ n1_ n2_ n3_; clear hb hbox hg) | ((with_reducible refine gate_callee (f := 39) rfl ?_); refine goesL_ (some 22) rfl rfl Try.func39 (by kernel_rfl) rfl #[.slice A0 l0.length c0, .int .i64 1048576] rfl al_ ?_; (with_reducible refine (laws_szPairS.calls k _ _ l0 1048576 t630 _ ?side1 ?side2 A6.out).mono ?_); (case side1 => exact kc_ (Kd.C_below HR0.out HB.out)); (case side2 => exact HC0.out); rintro e w32 ⟨rfl, hb⟩; refine ⟨_, rfl, ?_⟩; have n0_ := Aside0.mk (blk_below (g := gb629) (o := .cells #[.string a1_0, .string a1_1] 66 (0, 0)) (bk_ BK629.out) hb); have n1_ := Aside0.mk (below_step (bs_ HB.out GE629.out) hb); clear BK629; clear HB; have BK629 := n0_; have HB := n1_; clear n0_ n1_; (try clear hb); (try clear hb2); (try clear hk); (try clear hi); have hcz33_0 : w32.cell? ⟨gb629, 0, none⟩ = some (.string a1_0) := (blk_cell BK629.out 0).trans rfl; have hcz33_1 : w32.cell? ⟨gb629, 1, none⟩ = some (.string a1_1) := (blk_cell BK629.out 1).trans rfl; have hfz33_0 := blk_frozen BK629.out 0; have hfz33_1 := blk_frozen BK629.out 1) | ((with_reducible refine gate_callee (f := 40) rfl ?_); refine goesL_ (some 27) rfl rfl Try.func40 (by kernel_rfl) rfl #[.agg #[.string a1_0, .string a1_1], .int .i64 t630] rfl al_ ?_; (with_reducible refine (laws_szPair.calls a1_0 a1_1 t630 t631 _ A10.out).mono ?_); rintro e w34 ⟨rfl, hb⟩; refine ⟨_, rfl, ?_⟩; have n0_ := Aside0.mk (blk_below (g := gb629) (o := .cells #[.string a1_0, .string a1_1] 66 (0, 0)) (bk_ BK629.out) hb); have n1_ := Aside0.mk (below_step (bs_ HB.out GE629.out) hb); clear BK629; clear HB; have BK629 := n0_; have HB := n1_; clear n0_ n1_; (try clear hb); (try clear hb2); (try clear hk); (try clear hi)) | ((with_reducible refine gate_callee (f := 41) rfl ?_); refine goesL_ (some 32) rfl rfl Try.func41 (by kernel_rfl) rfl #[.slice A4 l4.length c4, .int .i64 t631] rfl al_ ?_; (with_reducible refine (laws_szStringS.calls k _ _ l4 t631 t632 _ ?side1 ?side2 A16.out).mono ?_); (case side1 => exact kc_ (Kd.C_below HR4.out HB.out)); (case side2 => exact HC4.out); rintro e w' ⟨rfl, ⟨nd, rfl⟩⟩; refine ⟨_, rfl, ?_⟩))
        (try (rw [drewN_self w34]; generalize hq_ : World.drewN w34 _ = w34; have n0_ : Aside0 (w34.heap[gb629]? = some (.cells #[.string a1_0, .string a1_1] 66 (0, 0))) := ⟨by rw [← hq_]; exact (bk_ BK629.out)⟩; have n1_ : Aside0 (Below w.heap.size w w34) := ⟨by rw [← hq_]; exact (bs_ HB.out GE629.out)⟩; clear BK629 HB hq_; have BK629 := n0_; have HB := n1_; clear n0_ n1_))
        have n0_ := Aside0.mk (blk_drew BK629.out)
        have n1_ := Aside0.mk (below_drew1 HB.out)
        clear BK629
        clear HB
        have BK629 := n0_
        have HB := n1_
        clear n0_ n1_
        refine start_ (n := 16) (S := fun w' => w'.cell? ⟨gb629, 0, none⟩ = some (.string a1_0) ∧ w'.cell? ⟨gb629, 1, none⟩ = some (.string a1_1)) (ds := []) (bq_ 0 16) (by kernel_rfl) rfl rfl ⟨(blk_cell BK629.out 0).trans rfl, (blk_cell BK629.out 1).trans rfl⟩ (fun hHeld => ?_); refine with_tabW laws_FnExactPartAt.tab11 laws_FnExactPartAt.bits11 (fun HT_ HW_ => ?_)
        generalize w34.drew = w35 at BK629 HB hHeld ⊢
        refine pu_ 0 (some 36) (bq_ 1 15) HT_ ?_
        refine pu_ 4 (some 40) #[true, false, false, false, true, false, false, false, false, false, false, false, false, false, false, false] HT_ ?_
        refine pu_ 5 (some 41) #[true, false, false, false, true, true, false, false, false, false, false, false, false, false, false, false] HT_ ?_
        refine pu_ 6 (some 42) #[true, false, false, false, true, true, true, false, false, false, false, false, false, false, false, false] HT_ ?_
        refine take_ (i := 2) (N := some 38) (v := ?_) (a' := ?_) #[true, false, true, false, true, true, true, false, false, false, false, false, false, false, false, false] rfl rfl (take_ofW HT_.out HW_.out (by kernel_rfl)) (fun _ _ _ h => h) (Or.inl ⟨by rfl, ?_⟩) hHeld ?_ ?_
        rotate_left
        · rintro w' ⟨s0, s1⟩
          go_simp
          with_reducible rfl
        rotate_left
        · simp only [Act.put, sa_, sz_, ss_, i64_w, i32_w]; rfl
        refine on_ 1 (some 37) #[true, true, true, false, true, true, true, false, false, false, false, false, false, false, false, false] HT_ (fun K hK => ?_)
        refine goes_ Try.func42 (by kernel_rfl) rfl #[.slice A0 l0.length c0] (by rfl) rfl rfl al_ ?_
        with_reducible refine (laws_toPairS.calls k _ _ l0 t633 _ ?side1 ?side2 A22.out).mono ?_
        (case side1 => exact kc_ (Kd.C_below HR0.out HB.out))
        (case side2 => exact HC0.out)
        rintro e w36 ⟨v634, rfl, ho0, hb⟩
        refine ⟨_, rfl, ?_⟩
        have n0_ := Aside0.mk (Kd.R_lower ho0 (below_size (bs_ HB.out GE629.out)))
        have n1_ := Aside0.mk (blk_below (g := gb629) (o := .cells #[.string a1_0, .string a1_1] 66 (0, 0)) (bk_ BK629.out) hb)
        have n2_ := Aside0.mk (below_step (bs_ HB.out GE629.out) hb)
        clear BK629
        clear HB
        have HO635 := n0_
        have BK629 := n1_
        have HB := n2_
        clear n0_ n1_ n2_
        (try clear hb)
        (try clear hb2)
        (try clear hk)
        (try clear hi)
        (try clear ho0)
        refine hK.out _ _ ⟨(blk_cell BK629.out 0).trans rfl, (blk_cell BK629.out 1).trans rfl⟩ (fun hHeld => ?_)
        clear hK K
        refine nm_ ?_
        refine on_ 3 (some 39) (bq_ 7 9) HT_ (fun K hK => ?_)
        refine goes_ Try.func43 (by kernel_rfl) rfl #[.agg #[.string a1_0, .string a1_1]] (by rfl) rfl rfl al_ ?_
        with_reducible refine (laws_toPair.calls a1_0 a1_1 t636 t637 _ A23.out).mono ?_
        rintro e w37 ⟨rfl, hb⟩
        refine ⟨_, rfl, ?_⟩
        have n0_ := Aside0.mk (Kd.R_below (kr_ HO635.out) hb)
        have n1_ := Aside0.mk (blk_below (g := gb629) (o := .cells #[.string a1_0, .string a1_1] 66 (0, 0)) (bk_ BK629.out) hb)
        have n2_ := Aside0.mk (below_step (bs_ HB.out GE629.out) hb)
        clear HO635
        clear BK629
        clear HB
        have HO635 := n0_
        have BK629 := n1_
        have HB := n2_
        clear n0_ n1_ n2_
        (try clear hb)
        (try clear hb2)
        (try clear hk)
        (try clear hi)
        refine hK.out _ _ ⟨(blk_cell BK629.out 0).trans rfl, (blk_cell BK629.out 1).trans rfl⟩ (fun hHeld => ?_)
        clear hK K
        refine nm_ ?_
        refine on_ 7 (some 43) (bq_ 8 8) HT_ (fun K hK => ?_)
        refine goes_ Try.func44 (by kernel_rfl) rfl #[.slice A4 l4.length c4] (by rfl) rfl rfl al_ ?_
        with_reducible refine (laws_toStringS.calls k _ _ l4 t638 _ ?side1 ?side2 A24.out).mono ?_
        (case side1 => exact kc_ (Kd.C_below HR4.out HB.out))
        (case side2 => exact HC4.out)
        rintro e w38 ⟨v639, rfl, ho0, hb⟩
        refine ⟨_, rfl, ?_⟩
        have n0_ := Aside0.mk (Kd.R_below (kr_ HO635.out) hb)
        have n1_ := Aside0.mk (Kd.R_lower ho0 (below_size (bs_ HB.out GE629.out)))
        have n2_ := Aside0.mk (blk_below (g := gb629) (o := .cells #[.string a1_0, .string a1_1] 66 (0, 0)) (bk_ BK629.out) hb)
        have n3_ := Aside0.mk (below_step (bs_ HB.out GE629.out) hb)
        clear HO635
        clear BK629
        clear HB
        have HO635 := n0_
        have HO640 := n1_
        have BK629 := n2_
        have HB := n3_
        clear n0_ n1_ n2_ n3_
        (try clear hb)
        (try clear hb2)
        (try clear hk)
        (try clear hi)
        (try clear ho0)
        obtain ⟨Ao39, co39, eo39⟩ := Kd.R_slice HO635.out
        (first | subst eo39 | (injection eo39 with f1_ f2_ f3_; have f4_ := f1_.symm; have f5_ := f3_.symm; clear f1_ f2_ f3_; subst f4_; subst f5_))
        obtain ⟨Ao40, co40, eo40⟩ := Kd.R_slice HO640.out
        (first | subst eo40 | (injection eo40 with f1_ f2_ f3_; have f4_ := f1_.symm; have f5_ := f3_.symm; clear f1_ f2_ f3_; subst f4_; subst f5_))
        refine hK.out _ _ ⟨(blk_cell BK629.out 0).trans rfl, (blk_cell BK629.out 1).trans rfl⟩ (fun hHeld => ?_)
        clear hK K
        refine nm_ ?_
        refine on_ 8 (some 44) (bq_ 9 7) HT_ (fun K hK => ?_)
        refine goes_ Try.func12 (by kernel_rfl) rfl #[.slice Ao39 t633.length co39, .agg #[.string t636, .string t637], .int .i64 a2, .int .i64 a3, .slice Ao40 t638.length co40] (by rfl) rfl rfl al_ ?_
        with_reducible refine (spec_PartAt.calls k _ _ t633 t636 t637 a2 a3 _ _ t638 t641 t642 t643 _ ?side1 ?side2 ?side3 ?side4 A25.out).mono ?_
        (case side1 => exact kc_ (Kd.R_reads' HO635.out).2.2)
        (case side2 => exact (Kd.R_reads' HO635.out).2.1)
        (case side3 => exact kc_ (Kd.R_reads' HO640.out).2.2)
        (case side4 => exact (Kd.R_reads' HO640.out).2.1)
        rintro e w41 ⟨rfl, hb⟩
        refine ⟨_, rfl, ?_⟩
        have n0_ := Aside0.mk (Kd.R_below (kr_ HO635.out) hb)
        have n1_ := Aside0.mk (Kd.R_below (kr_ HO640.out) hb)
        have n2_ := Aside0.mk (blk_below (g := gb629) (o := .cells #[.string a1_0, .string a1_1] 66 (0, 0)) (bk_ BK629.out) hb)
        have n3_ := Aside0.mk (below_step (bs_ HB.out GE629.out) hb)
        clear HO635
        clear HO640
        clear BK629
        clear HB
        have HO635 := n0_
        have HO640 := n1_
        have BK629 := n2_
        have HB := n3_
        clear n0_ n1_ n2_ n3_
        (try clear hb)
        (try clear hb2)
        (try clear hk)
        (try clear hi)
        refine hK.out _ _ ⟨(blk_cell BK629.out 0).trans rfl, (blk_cell BK629.out 1).trans rfl⟩ (fun hHeld => ?_)
        clear hK K
        refine nm_ ?_
        refine pu_ 9 (some 35) (bq_ 10 6) HT_ ?_
        refine pu_ 10 (some 45) (bq_ 11 5) HT_ ?_
        refine pu_ 11 (some 46) (bq_ 12 4) HT_ ?_
        refine pu_ 12 (some 47) (bq_ 13 3) HT_ ?_
        refine pu_ 13 (some 12) (bq_ 14 2) HT_ ?_
        refine pu_ 14 (some 13) (bq_ 15 1) HT_ ?_
        refine pu_ 15 (some 14) (bq_ 16 0) HT_ ?_
        refine done_ (done_of HT_.out (by kernel_rfl)) ?_
        go_upto_region 15 with (first | ((with_reducible refine gate_callee (f := 42) rfl ?_); refine goesL_ (some 49) rfl rfl Try.func42 (by kernel_rfl) rfl #[.slice A0 l0.length c0] rfl al_ ?_; (with_reducible refine (laws_toPairS.calls k _ _ l0 t644 _ ?side1 ?side2 A26.out).mono ?_); (case side1 => exact kc_ (Kd.C_below HR0.out HB.out)); (case side2 => exact HC0.out); rintro e w42 ⟨v645, rfl, ho0, hb⟩; refine ⟨_, rfl, ?_⟩; have n0_ := Aside0.mk (Kd.R_elder' (kr_ HO635.out) (Kd.R_base ho0) hb); have n1_ := Aside0.mk (Kd.R_below (kr_ HO640.out) hb); have n2_ := Aside0.mk (Kd.R_lower (Kd.R_new' ho0 (Kd.R_lt (kr_ HO635.out))) (below_size (bs_ HB.out GE629.out))); have n3_ := Aside0.mk (blk_below (g := gb629) (o := .cells #[.string a1_0, .string a1_1] 66 (0, 0)) (bk_ BK629.out) hb); have n4_ := Aside0.mk (below_step (bs_ HB.out GE629.out) hb); clear HO635; clear HO640; clear BK629; clear HB; have HO635 := n0_; have HO640 := n1_; have HO646 := n2_; have BK629 := n3_; have HB := n4_; clear n0_ n1_ n2_ n3_ n4_; (try clear hb); (try clear hb2); (try clear hk); (try clear hi); (try clear ho0)) | ((with_reducible refine gate_callee (f := 44) rfl ?_); refine goesL_ (some 51) rfl rfl Try.func44 (by kernel_rfl) rfl #[.slice A4 l4.length c4] rfl al_ ?_; (with_reducible refine (laws_toStringS.calls k _ _ l4 t647 _ ?side1 ?side2 A27.out).mono ?_); (case side1 => exact kc_ (Kd.C_below HR4.out HB.out)); (case side2 => exact HC4.out); rintro e w43 ⟨v648, rfl, ho0, hb⟩; refine ⟨_, rfl, ?_⟩; have n0_ := Aside0.mk (Kd.R_below (kr_ HO635.out) hb); have n1_ := Aside0.mk (Kd.R_elder' (kr_ HO640.out) (Kd.R_base ho0) hb); have n2_ := Aside0.mk (Kd.R_below (kr_ HO646.out) hb); have n3_ := Aside0.mk (Kd.R_lower (Kd.R_new' ho0 (Kd.R_lt (kr_ HO640.out))) (below_size (bs_ HB.out GE629.out))); have n4_ := Aside0.mk (blk_below (g := gb629) (o := .cells #[.string a1_0, .string a1_1] 66 (0, 0)) (bk_ BK629.out) hb); have n5_ := Aside0.mk (below_step (bs_ HB.out GE629.out) hb); clear HO635; clear HO640; clear HO646; clear BK629; clear HB; have HO635 := n0_; have HO640 := n1_; have HO646 := n2_; have HO649 := n3_; have BK629 := n4_; have HB := n5_; clear n0_ n1_ n2_ n3_ n4_ n5_; (try clear hb); (try clear hb2); (try clear hk); (try clear hi); (try clear ho0); have hcz44_0 : w43.cell? ⟨gb629, 0, none⟩ = some (.string a1_0) := (blk_cell BK629.out 0).trans rfl; have hcz44_1 : w43.cell? ⟨gb629, 1, none⟩ = some (.string a1_1) := (blk_cell BK629.out 1).trans rfl; have hfz44_0 := blk_frozen BK629.out 0; have hfz44_1 := blk_frozen BK629.out 1) | ((with_reducible refine gate_callee (f := 43) rfl ?_); refine goesL_ (some 55) rfl rfl Try.func43 (by kernel_rfl) rfl #[.agg #[.string a1_0, .string a1_1]] rfl al_ ?_; (with_reducible refine (laws_toPair.calls a1_0 a1_1 t650 t651 _ A28.out).mono ?_); rintro e w45 ⟨rfl, hb⟩; refine ⟨_, rfl, ?_⟩; have n0_ := Aside0.mk (Kd.R_below (kr_ HO635.out) hb); have n1_ := Aside0.mk (Kd.R_below (kr_ HO640.out) hb); have n2_ := Aside0.mk (Kd.R_below (kr_ HO646.out) hb); have n3_ := Aside0.mk (Kd.R_below (kr_ HO649.out) hb); have n4_ := Aside0.mk (blk_below (g := gb629) (o := .cells #[.string a1_0, .string a1_1] 66 (0, 0)) (bk_ BK629.out) hb); have n5_ := Aside0.mk (below_step (bs_ HB.out GE629.out) hb); clear HO635; clear HO640; clear HO646; clear HO649; clear BK629; clear HB; have HO635 := n0_; have HO640 := n1_; have HO646 := n2_; have HO649 := n3_; have BK629 := n4_; have HB := n5_; clear n0_ n1_ n2_ n3_ n4_ n5_; (try clear hb); (try clear hb2); (try clear hk); (try clear hi); obtain ⟨Ao46, co46, eo46⟩ := Kd.R_slice HO646.out; subst eo46; obtain ⟨Ao47, co47, eo47⟩ := Kd.R_slice HO649.out; subst eo47) | ((with_reducible refine gate_callee (f := 11) rfl ?_); refine goesL_ (some 59) rfl rfl Try.func11 (by kernel_rfl) rfl #[.slice Ao46 t644.length co46, .agg #[.string t650, .string t651], .int .i64 a2, .int .i64 a3, .slice Ao47 t647.length co47] rfl al_ ?_; (with_reducible refine (impl_PartAt.calls k _ _ t644 t650 t651 a2 a3 _ _ t647 t652 t653 t654 _ ?side1 ?side2 ?side3 ?side4 A29.out).mono ?_); (case side1 => exact kc_ (Kd.R_reads' HO646.out).2.2); (case side2 => exact (Kd.R_reads' HO646.out).2.1); (case side3 => exact kc_ (Kd.R_reads' HO649.out).2.2); (case side4 => exact (Kd.R_reads' HO649.out).2.1); rintro e w48 ⟨rfl, hb⟩; refine ⟨_, rfl, ?_⟩; have n0_ := Aside0.mk (Kd.R_below (kr_ HO635.out) hb); have n1_ := Aside0.mk (Kd.R_below (kr_ HO640.out) hb); have n2_ := Aside0.mk (Kd.R_below (kr_ HO646.out) hb); have n3_ := Aside0.mk (Kd.R_below (kr_ HO649.out) hb); have n4_ := Aside0.mk (blk_below (g := gb629) (o := .cells #[.string a1_0, .string a1_1] 66 (0, 0)) (bk_ BK629.out) hb); have n5_ := Aside0.mk (below_step (bs_ HB.out GE629.out) hb); clear HO635; clear HO640; clear HO646; clear HO649; clear BK629; clear HB; have HO635 := n0_; have HO640 := n1_; have HO646 := n2_; have HO649 := n3_; have BK629 := n4_; have HB := n5_; clear n0_ n1_ n2_ n3_ n4_ n5_; (try clear hb); (try clear hb2); (try clear hk); (try clear hi)))
        (try simp only [Act.put, sa_, sz_, ss_])
        go_cut [75] (fun v75 wc => ∃ (kq : Nat) (x75_29 : Bool), v75 = .bool x75_29 ∧ Aside0 (laws_FnExactPartAt.j0 kq l0 l4 t644 t647 x75_29 = some r) ∧ Aside0 (kq ≤ k) ∧ Aside0 (Kd.R k26 26 wc w.heap.size (fun _ => True) (.slice Ao46 t644.length co46) t644) ∧ Aside0 (Kd.R Kd.string 9 wc w.heap.size (fun _ => True) (.slice Ao47 t647.length co47) t647) ∧ Aside0 (wc.heap[gb629]? = some (.cells #[.string a1_0, .string a1_1] 66 (0, 0))) ∧ Aside0 (Below w.heap.size w wc))
        case first =>
         have H := HC30.out
         clear HC30
         by_cases c49 : t652.toList = t641.toList
         · rw [if_pos c49] at H
           have c49b0 : (t652.toList == t641.toList) = true := beq_iff_eq.mpr c49
           have c49b1 : (t652.toList != t641.toList) = false := bne_eq_false_iff_eq.mpr c49
           clear c49
           (first | rw [c49b0] | (simp only [i64_w, i32_w]; rw [c49b0]) | skip)
           by_cases c50 : t653.toList = t642.toList
           · rw [if_pos c50] at H
             have c50b0 : (t653.toList == t642.toList) = true := beq_iff_eq.mpr c50
             have c50b1 : (t653.toList != t642.toList) = false := bne_eq_false_iff_eq.mpr c50
             clear c50
             have H' := Aside0.mk H
             clear H
             go_wp2
             go_meet
             case rel => exact ⟨_, ((t654 != t643)), (by first | rfl | (simp; done) | (simp [*]; done)), H', ⟨by first | omega | exact Nat.le_refl _⟩, ⟨by (with_reducible repeat (first | apply Kd.R_alloc | apply Kd.R_drewN | apply Kd.R_drew)); exact Kd.R_mono HO646.out (fun _ hk => trivial)⟩, ⟨by (with_reducible repeat (first | apply Kd.R_alloc | apply Kd.R_drewN | apply Kd.R_drew)); exact Kd.R_mono HO649.out (fun _ hk => trivial)⟩, ⟨by (with_reducible repeat (first | refine blk_drewN ?_ _ | refine blk_drew ?_ | refine blk_alloc ?_ _)); exact BK629.out⟩, ⟨bs_ HB.out GE629.out⟩⟩
           · rw [if_neg c50] at H
             have c50b0 : (t653.toList == t642.toList) = false := beq_eq_false_iff_ne.mpr c50
             have c50b1 : (t653.toList != t642.toList) = true := bne_iff_ne.mpr c50
             have H' := Aside0.mk H
             clear H
             go_wp2
             go_meet
             case rel => exact ⟨_, (true), (by first | rfl | (simp; done) | (simp [*]; done)), H', ⟨by first | omega | exact Nat.le_refl _⟩, ⟨by (with_reducible repeat (first | apply Kd.R_alloc | apply Kd.R_drewN | apply Kd.R_drew)); exact Kd.R_mono HO646.out (fun _ hk => trivial)⟩, ⟨by (with_reducible repeat (first | apply Kd.R_alloc | apply Kd.R_drewN | apply Kd.R_drew)); exact Kd.R_mono HO649.out (fun _ hk => trivial)⟩, ⟨by (with_reducible repeat (first | refine blk_drewN ?_ _ | refine blk_drew ?_ | refine blk_alloc ?_ _)); exact BK629.out⟩, ⟨bs_ HB.out GE629.out⟩⟩
         · rw [if_neg c49] at H
           have c49b0 : (t652.toList == t641.toList) = false := beq_eq_false_iff_ne.mpr c49
           have c49b1 : (t652.toList != t641.toList) = true := bne_iff_ne.mpr c49
           (first | rw [c49b0] | (simp only [i64_w, i32_w]; rw [c49b0]) | skip)
           have H' := Aside0.mk H
           clear H
           go_wp2
           go_meet
           case rel => exact ⟨_, (true), (by first | rfl | (simp; done) | (simp [*]; done)), H', ⟨by first | omega | exact Nat.le_refl _⟩, ⟨by (with_reducible repeat (first | apply Kd.R_alloc | apply Kd.R_drewN | apply Kd.R_drew)); exact Kd.R_mono HO646.out (fun _ hk => trivial)⟩, ⟨by (with_reducible repeat (first | apply Kd.R_alloc | apply Kd.R_drewN | apply Kd.R_drew)); exact Kd.R_mono HO649.out (fun _ hk => trivial)⟩, ⟨by (with_reducible repeat (first | refine blk_drewN ?_ _ | refine blk_drew ?_ | refine blk_alloc ?_ _)); exact BK629.out⟩, ⟨bs_ HB.out GE629.out⟩⟩
        case rest =>
         clear HC30
         try clear c1
         try clear p2
         try clear c3
         try clear c4
         try clear c5
         try clear c7
         try clear c7b0
         try clear c8
         try clear c11
         try clear c11b0
         try clear c12
         try clear c17
         try clear c17b0
         try clear c39
         try clear c40
         try clear c41
         try clear c42
         try clear c43
         try clear c44
         try clear c49
         try clear c49b0
         try clear c49b1
         try clear c50
         try clear c50b0
         try clear c50b1
         try clear hcz14_0
         try clear hcz14_1
         try clear hcz20_0
         try clear hcz20_1
         try clear hcz33_0
         try clear hcz33_1
         try clear hcz44_0
         try clear hcz44_1
         try clear hfz14_0
         try clear hfz14_1
         try clear hfz20_0
         try clear hfz20_1
         try clear hfz33_0
         try clear hfz33_1
         try clear hfz44_0
         try clear hfz44_1
         obtain ⟨kq, x75_29, rfl, HA, HJ29, HO_15, HO_16, BK629, HB⟩ := hcut
         cases kq with
         | zero => exact absurd HA.out (by simp [laws_FnExactPartAt.j0])
         | succ kj29 =>
          have H := HA.out
          clear HA
          simp only [laws_FnExactPartAt.j0] at H
          by_cases c51 : x75_29 = true
          · subst c51
            have H1 : (some false) = some r := by rw [if_pos rfl] at H; exact H
            clear H
            have H := H1
            clear H1
            obtain rfl := Option.some.inj H
            go_wp2
            go_ret
            exact ⟨by first | rfl | (simp [errW_none, errW_some] <;> rfl) | (simp [*, errW_none, errW_some] <;> rfl), bs_ HB.out GE629.out⟩
          · replace c51 := Bool.eq_false_iff.mpr c51
            subst c51
            have H1 : ((laws_toPairS.f kj29 l0).bind fun t655 => ((laws_eqPairS.f kj29 t644 t655).bind fun t658 => (if t658 = true then ((laws_toStringS.f kj29 l4).bind fun t659 => ((laws_eqStringS.f kj29 t647 t659).bind fun t662 => (if t662 = true then (some true) else (some false)))) else (some false)))) = some r := by rw [if_neg (show ¬ (false = true) by decide)] at H; exact H
            clear H
            have H := H1
            clear H1
            replace H := Option.bind_eq_some_iff.mp H
            obtain ⟨t655, A520, H⟩ := H
            have A52 := Aside0.mk A520
            clear A520
            replace H := Option.bind_eq_some_iff.mp H
            obtain ⟨t658, A530, H⟩ := H
            have A53 := Aside0.mk A530
            clear A530
            by_cases c54 : t658 = true
            · subst c54
              have H1 : ((laws_toStringS.f kj29 l4).bind fun t659 => ((laws_eqStringS.f kj29 t647 t659).bind fun t662 => (if t662 = true then (some true) else (some false)))) = some r := by rw [if_pos rfl] at H; exact H
              clear H
              have H := H1
              clear H1
              replace H := Option.bind_eq_some_iff.mp H
              obtain ⟨t659, A550, H⟩ := H
              have A55 := Aside0.mk A550
              clear A550
              replace H := Option.bind_eq_some_iff.mp H
              obtain ⟨t662, A560, H⟩ := H
              have A56 := Aside0.mk A560
              clear A560
              by_cases c57 : t662 = true
              · subst c57
                have H1 : (some true) = some r := by rw [if_pos rfl] at H; exact H
                clear H
                have H := H1
                clear H1
                obtain rfl := Option.some.inj H
                go_wp2_with (first | ((with_reducible refine gate_callee (f := 42) rfl ?_); refine goesL_ (some 78) rfl rfl Try.func42 (by kernel_rfl) rfl #[.slice A0 l0.length c0] rfl al_ ?_; (with_reducible refine (laws_toPairS.calls kj29 _ _ l0 t655 _ ?side1 ?side2 A52.out).mono ?_); (case side1 => exact kc_ (Kd.C_below HR0.out HB.out)); (case side2 => exact HC0.out); rintro e w58 ⟨v656, rfl, ho0, hb⟩; refine ⟨_, rfl, ?_⟩; have n0_ := Aside0.mk (Kd.R_elder' (kr_ HO_15.out) (Kd.R_base ho0) hb); have n1_ := Aside0.mk (Kd.R_below (kr_ HO_16.out) hb); have n2_ := Aside0.mk (Kd.R_lower (Kd.R_new' ho0 (Kd.R_lt (kr_ HO_15.out))) (below_size (bs_ HB.out GE629.out))); have n3_ := Aside0.mk (blk_below (g := gb629) (o := .cells #[.string a1_0, .string a1_1] 66 (0, 0)) (bk_ BK629.out) hb); have n4_ := Aside0.mk (below_step (bs_ HB.out GE629.out) hb); clear HO_15; clear HO_16; clear BK629; clear HB; have HO_15 := n0_; have HO_16 := n1_; have HO657 := n2_; have BK629 := n3_; have HB := n4_; clear n0_ n1_ n2_ n3_ n4_; (try clear hb); (try clear hb2); (try clear hk); (try clear hi); (try clear ho0); obtain ⟨Ao59, co59, eo59⟩ := Kd.R_slice HO657.out; subst eo59) | ((with_reducible refine gate_callee (f := 21) rfl ?_); refine goesL_ (some 79) rfl rfl Try.func21 (by kernel_rfl) rfl #[.slice Ao46 t644.length co46, .slice Ao59 t655.length co59] rfl al_ ?_; (with_reducible refine (laws_eqPairS.calls kj29 _ _ t644 _ _ t655 true _ ?side1 ?side2 ?side3 ?side4 A53.out).mono ?_); (case side1 => exact kc_ (Kd.R_reads' HO_15.out).2.2); (case side2 => exact (Kd.R_reads' HO_15.out).2.1); (case side3 => exact kc_ (Kd.R_reads' HO657.out).2.2); (case side4 => exact (Kd.R_reads' HO657.out).2.1); rintro e w60 ⟨rfl, hb⟩; refine ⟨_, rfl, ?_⟩; have n0_ := Aside0.mk (Kd.R_below (kr_ HO_15.out) hb); have n1_ := Aside0.mk (Kd.R_below (kr_ HO_16.out) hb); have n2_ := Aside0.mk (Kd.R_below (kr_ HO657.out) hb); have n3_ := Aside0.mk (blk_below (g := gb629) (o := .cells #[.string a1_0, .string a1_1] 66 (0, 0)) (bk_ BK629.out) hb); have n4_ := Aside0.mk (below_step (bs_ HB.out GE629.out) hb); clear HO_15; clear HO_16; clear HO657; clear BK629; clear HB; have HO_15 := n0_; have HO_16 := n1_; have HO657 := n2_; have BK629 := n3_; have HB := n4_; clear n0_ n1_ n2_ n3_ n4_; (try clear hb); (try clear hb2); (try clear hk); (try clear hi)) | ((with_reducible refine gate_callee (f := 44) rfl ?_); refine goesL_ (some 83) rfl rfl Try.func44 (by kernel_rfl) rfl #[.slice A4 l4.length c4] rfl al_ ?_; (with_reducible refine (laws_toStringS.calls kj29 _ _ l4 t659 _ ?side1 ?side2 A55.out).mono ?_); (case side1 => exact kc_ (Kd.C_below HR4.out HB.out)); (case side2 => exact HC4.out); rintro e w61 ⟨v660, rfl, ho0, hb⟩; refine ⟨_, rfl, ?_⟩; have n0_ := Aside0.mk (Kd.R_below (kr_ HO_15.out) hb); have n1_ := Aside0.mk (Kd.R_elder' (kr_ HO_16.out) (Kd.R_base ho0) hb); have n2_ := Aside0.mk (Kd.R_below (kr_ HO657.out) hb); have n3_ := Aside0.mk (Kd.R_lower (Kd.R_new' ho0 (Kd.R_lt (kr_ HO_16.out))) (below_size (bs_ HB.out GE629.out))); have n4_ := Aside0.mk (blk_below (g := gb629) (o := .cells #[.string a1_0, .string a1_1] 66 (0, 0)) (bk_ BK629.out) hb); have n5_ := Aside0.mk (below_step (bs_ HB.out GE629.out) hb); clear HO_15; clear HO_16; clear HO657; clear BK629; clear HB; have HO_15 := n0_; have HO_16 := n1_; have HO657 := n2_; have HO661 := n3_; have BK629 := n4_; have HB := n5_; clear n0_ n1_ n2_ n3_ n4_ n5_; (try clear hb); (try clear hb2); (try clear hk); (try clear hi); (try clear ho0); obtain ⟨Ao62, co62, eo62⟩ := Kd.R_slice HO661.out; subst eo62) | ((with_reducible refine gate_callee (f := 45) rfl ?_); refine goesL_ (some 84) rfl rfl Try.func45 (by kernel_rfl) rfl #[.slice Ao47 t647.length co47, .slice Ao62 t659.length co62] rfl al_ ?_; (with_reducible refine (laws_eqStringS.calls kj29 _ _ t647 _ _ t659 true _ ?side1 ?side2 ?side3 ?side4 A56.out).mono ?_); (case side1 => exact kc_ (Kd.R_reads' HO_16.out).2.2); (case side2 => exact (Kd.R_reads' HO_16.out).2.1); (case side3 => exact kc_ (Kd.R_reads' HO661.out).2.2); (case side4 => exact (Kd.R_reads' HO661.out).2.1); rintro e w' ⟨rfl, ⟨nd, rfl⟩⟩; refine ⟨_, rfl, ?_⟩))
                go_ret
                exact ⟨by first | rfl | (simp [errW_none, errW_some] <;> rfl) | (simp [*, errW_none, errW_some] <;> rfl), bs_ HB.out GE629.out⟩
              · replace c57 := Bool.eq_false_iff.mpr c57
                subst c57
                have H1 : (some false) = some r := by rw [if_neg (show ¬ (false = true) by decide)] at H; exact H
                clear H
                have H := H1
                clear H1
                obtain rfl := Option.some.inj H
                go_wp2_with (first | ((with_reducible refine gate_callee (f := 42) rfl ?_); refine goesL_ (some 78) rfl rfl Try.func42 (by kernel_rfl) rfl #[.slice A0 l0.length c0] rfl al_ ?_; (with_reducible refine (laws_toPairS.calls kj29 _ _ l0 t655 _ ?side1 ?side2 A52.out).mono ?_); (case side1 => exact kc_ (Kd.C_below HR0.out HB.out)); (case side2 => exact HC0.out); rintro e w63 ⟨v656, rfl, ho0, hb⟩; refine ⟨_, rfl, ?_⟩; have n0_ := Aside0.mk (Kd.R_elder' (kr_ HO_15.out) (Kd.R_base ho0) hb); have n1_ := Aside0.mk (Kd.R_below (kr_ HO_16.out) hb); have n2_ := Aside0.mk (Kd.R_lower (Kd.R_new' ho0 (Kd.R_lt (kr_ HO_15.out))) (below_size (bs_ HB.out GE629.out))); have n3_ := Aside0.mk (blk_below (g := gb629) (o := .cells #[.string a1_0, .string a1_1] 66 (0, 0)) (bk_ BK629.out) hb); have n4_ := Aside0.mk (below_step (bs_ HB.out GE629.out) hb); clear HO_15; clear HO_16; clear BK629; clear HB; have HO_15 := n0_; have HO_16 := n1_; have HO657 := n2_; have BK629 := n3_; have HB := n4_; clear n0_ n1_ n2_ n3_ n4_; (try clear hb); (try clear hb2); (try clear hk); (try clear hi); (try clear ho0); obtain ⟨Ao64, co64, eo64⟩ := Kd.R_slice HO657.out; subst eo64) | ((with_reducible refine gate_callee (f := 21) rfl ?_); refine goesL_ (some 79) rfl rfl Try.func21 (by kernel_rfl) rfl #[.slice Ao46 t644.length co46, .slice Ao64 t655.length co64] rfl al_ ?_; (with_reducible refine (laws_eqPairS.calls kj29 _ _ t644 _ _ t655 true _ ?side1 ?side2 ?side3 ?side4 A53.out).mono ?_); (case side1 => exact kc_ (Kd.R_reads' HO_15.out).2.2); (case side2 => exact (Kd.R_reads' HO_15.out).2.1); (case side3 => exact kc_ (Kd.R_reads' HO657.out).2.2); (case side4 => exact (Kd.R_reads' HO657.out).2.1); rintro e w65 ⟨rfl, hb⟩; refine ⟨_, rfl, ?_⟩; have n0_ := Aside0.mk (Kd.R_below (kr_ HO_15.out) hb); have n1_ := Aside0.mk (Kd.R_below (kr_ HO_16.out) hb); have n2_ := Aside0.mk (Kd.R_below (kr_ HO657.out) hb); have n3_ := Aside0.mk (blk_below (g := gb629) (o := .cells #[.string a1_0, .string a1_1] 66 (0, 0)) (bk_ BK629.out) hb); have n4_ := Aside0.mk (below_step (bs_ HB.out GE629.out) hb); clear HO_15; clear HO_16; clear HO657; clear BK629; clear HB; have HO_15 := n0_; have HO_16 := n1_; have HO657 := n2_; have BK629 := n3_; have HB := n4_; clear n0_ n1_ n2_ n3_ n4_; (try clear hb); (try clear hb2); (try clear hk); (try clear hi)) | ((with_reducible refine gate_callee (f := 44) rfl ?_); refine goesL_ (some 83) rfl rfl Try.func44 (by kernel_rfl) rfl #[.slice A4 l4.length c4] rfl al_ ?_; (with_reducible refine (laws_toStringS.calls kj29 _ _ l4 t659 _ ?side1 ?side2 A55.out).mono ?_); (case side1 => exact kc_ (Kd.C_below HR4.out HB.out)); (case side2 => exact HC4.out); rintro e w66 ⟨v660, rfl, ho0, hb⟩; refine ⟨_, rfl, ?_⟩; have n0_ := Aside0.mk (Kd.R_below (kr_ HO_15.out) hb); have n1_ := Aside0.mk (Kd.R_elder' (kr_ HO_16.out) (Kd.R_base ho0) hb); have n2_ := Aside0.mk (Kd.R_below (kr_ HO657.out) hb); have n3_ := Aside0.mk (Kd.R_lower (Kd.R_new' ho0 (Kd.R_lt (kr_ HO_16.out))) (below_size (bs_ HB.out GE629.out))); have n4_ := Aside0.mk (blk_below (g := gb629) (o := .cells #[.string a1_0, .string a1_1] 66 (0, 0)) (bk_ BK629.out) hb); have n5_ := Aside0.mk (below_step (bs_ HB.out GE629.out) hb); clear HO_15; clear HO_16; clear HO657; clear BK629; clear HB; have HO_15 := n0_; have HO_16 := n1_; have HO657 := n2_; have HO661 := n3_; have BK629 := n4_; have HB := n5_; clear n0_ n1_ n2_ n3_ n4_ n5_; (try clear hb); (try clear hb2); (try clear hk); (try clear hi); (try clear ho0); obtain ⟨Ao67, co67, eo67⟩ := Kd.R_slice HO661.out; subst eo67) | ((with_reducible refine gate_callee (f := 45) rfl ?_); refine goesL_ (some 84) rfl rfl Try.func45 (by kernel_rfl) rfl #[.slice Ao47 t647.length co47, .slice Ao67 t659.length co67] rfl al_ ?_; (with_reducible refine (laws_eqStringS.calls kj29 _ _ t647 _ _ t659 false _ ?side1 ?side2 ?side3 ?side4 A56.out).mono ?_); (case side1 => exact kc_ (Kd.R_reads' HO_16.out).2.2); (case side2 => exact (Kd.R_reads' HO_16.out).2.1); (case side3 => exact kc_ (Kd.R_reads' HO661.out).2.2); (case side4 => exact (Kd.R_reads' HO661.out).2.1); rintro e w' ⟨rfl, ⟨nd, rfl⟩⟩; refine ⟨_, rfl, ?_⟩))
                go_ret
                exact ⟨by first | rfl | (simp [errW_none, errW_some] <;> rfl) | (simp [*, errW_none, errW_some] <;> rfl), bs_ HB.out GE629.out⟩
            · replace c54 := Bool.eq_false_iff.mpr c54
              subst c54
              have H1 : (some false) = some r := by rw [if_neg (show ¬ (false = true) by decide)] at H; exact H
              clear H
              have H := H1
              clear H1
              obtain rfl := Option.some.inj H
              go_wp2_with (first | ((with_reducible refine gate_callee (f := 42) rfl ?_); refine goesL_ (some 78) rfl rfl Try.func42 (by kernel_rfl) rfl #[.slice A0 l0.length c0] rfl al_ ?_; (with_reducible refine (laws_toPairS.calls kj29 _ _ l0 t655 _ ?side1 ?side2 A52.out).mono ?_); (case side1 => exact kc_ (Kd.C_below HR0.out HB.out)); (case side2 => exact HC0.out); rintro e w68 ⟨v656, rfl, ho0, hb⟩; refine ⟨_, rfl, ?_⟩; have n0_ := Aside0.mk (Kd.R_elder' (kr_ HO_15.out) (Kd.R_base ho0) hb); have n1_ := Aside0.mk (Kd.R_below (kr_ HO_16.out) hb); have n2_ := Aside0.mk (Kd.R_lower (Kd.R_new' ho0 (Kd.R_lt (kr_ HO_15.out))) (below_size (bs_ HB.out GE629.out))); have n3_ := Aside0.mk (blk_below (g := gb629) (o := .cells #[.string a1_0, .string a1_1] 66 (0, 0)) (bk_ BK629.out) hb); have n4_ := Aside0.mk (below_step (bs_ HB.out GE629.out) hb); clear HO_15; clear HO_16; clear BK629; clear HB; have HO_15 := n0_; have HO_16 := n1_; have HO657 := n2_; have BK629 := n3_; have HB := n4_; clear n0_ n1_ n2_ n3_ n4_; (try clear hb); (try clear hb2); (try clear hk); (try clear hi); (try clear ho0); obtain ⟨Ao69, co69, eo69⟩ := Kd.R_slice HO657.out; subst eo69) | ((with_reducible refine gate_callee (f := 21) rfl ?_); refine goesL_ (some 79) rfl rfl Try.func21 (by kernel_rfl) rfl #[.slice Ao46 t644.length co46, .slice Ao69 t655.length co69] rfl al_ ?_; (with_reducible refine (laws_eqPairS.calls kj29 _ _ t644 _ _ t655 false _ ?side1 ?side2 ?side3 ?side4 A53.out).mono ?_); (case side1 => exact kc_ (Kd.R_reads' HO_15.out).2.2); (case side2 => exact (Kd.R_reads' HO_15.out).2.1); (case side3 => exact kc_ (Kd.R_reads' HO657.out).2.2); (case side4 => exact (Kd.R_reads' HO657.out).2.1); rintro e w70 ⟨rfl, hb⟩; refine ⟨_, rfl, ?_⟩; have n0_ := Aside0.mk (Kd.R_below (kr_ HO_15.out) hb); have n1_ := Aside0.mk (Kd.R_below (kr_ HO_16.out) hb); have n2_ := Aside0.mk (Kd.R_below (kr_ HO657.out) hb); have n3_ := Aside0.mk (blk_below (g := gb629) (o := .cells #[.string a1_0, .string a1_1] 66 (0, 0)) (bk_ BK629.out) hb); have n4_ := Aside0.mk (below_step (bs_ HB.out GE629.out) hb); clear HO_15; clear HO_16; clear HO657; clear BK629; clear HB; have HO_15 := n0_; have HO_16 := n1_; have HO657 := n2_; have BK629 := n3_; have HB := n4_; clear n0_ n1_ n2_ n3_ n4_; (try clear hb); (try clear hb2); (try clear hk); (try clear hi)))
              go_ret
              exact ⟨by first | rfl | (simp [errW_none, errW_some] <;> rfl) | (simp [*, errW_none, errW_some] <;> rfl), bs_ HB.out GE629.out⟩

end Go.Proofs.Ytgaalomhipfgjaa.P
