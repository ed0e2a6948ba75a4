-- Written by wip/xp/xp.py over the kit's print; Lean checks it.
import Derived.Test.YtgaalomhipfgjaaStr
import Derived.Test.YtgaalomhipfgjaaPx0
import Derived.Test.YtgaalomhipfgjaaPx1
import Derived.Test.YtgaalomhipfgjaaPx2
import Derived.Test.YtgaalomhipfgjaaPx8
import Derived.Test.YtgaalomhipfgjaaPx15
import Derived.Test.YtgaalomhipfgjaaPx16
import Derived.Test.YtgaalomhipfgjaaPx18
namespace Go.Proofs.Ytgaalomhipfgjaa.P
open Go.RowKit Go.Proofs.YtgaalomhipfgjaaW.PrintWords Go.Proofs.YtgaalomhipfgjaaW.PrintLast Go.Proofs.YtgaalomhipfgjaaW.PrintMore
attribute [local go_sem] max2_int min2_int max_two min_two max_three min_three max_four min_four   -- for this text's walks alone
set_option linter.unusedVariables false
set_option linter.unusedSimpArgs false

attribute [local go_sem high] eqA26
/-! ###  laws_FnProofs: function 7 -/
mutual
def laws_FnProofs.j0 : Nat → List (S26) → ByteArray → ByteArray → Bool → Int → Int → List (S63) → Option (Bool)
  | 0, _, _, _, _, _, _, _ => none
  | k + 1, x3, x4, x5, x46, x797000, x797001, x797002 => if x46 = true then (some false) else ((impl_Between.f k x3 x4 x5).bind fun t803 => ((spec_PairsOk.f k x3).bind fun t806 => (if t806 = true then (laws_FnProofs.l0 k x3 x4 x5 (t803.length : Int) 0 x797000 x797001 x797002) else (some (x797000 == 0)))))
def laws_FnProofs.l0 : Nat → List (S26) → ByteArray → ByteArray → Int → Int → Int → Int → List (S63) → Option (Bool)
  | 0, _, _, _, _, _, _, _, _ => none
  | k + 1, x3, x4, x5, x8, x9, x797000, x797001, x797002 => if x9 < (x797002.length : Int) then (if 0 ≤ x9 then (if 0 ≤ (wrap64 (x797001 + x9)) then (if (wrap64 (x797001 + x9)) < (x3.length : Int) then (if (!((((rd_T63 x797002 x9).f0.f0).toList) == (((rd_T26 x3 (wrap64 (x797001 + x9))).f0).toList)) || (!((((rd_T63 x797002 x9).f0.f1).toList) == (((rd_T26 x3 (wrap64 (x797001 + x9))).f1).toList)))) = true then (some false) else ((impl_PathOf.f k x3 (wrap64 (x797001 + x9))).bind fun t810 => ((laws_sameTexts.f k ((rd_T63 x797002 x9).f1) t810).bind fun t813 => (if t813 = true then (laws_FnProofs.l0 k x3 x4 x5 x8 (wrap64 (x9 + 1)) x797000 x797001 x797002) else (some false))))) else (none)) else (none)) else (none)) else (if x797000 = (x3.length : Int) then (if x5.toList = ([] : List UInt8) then (if (x797002.length : Int) ≥ x8 then (some (decide ((x797002.length : Int) ≤ (wrap64 (x8 + 2))))) else (some false)) else (if (Op.bytesLess x5.toList x4.toList) = true then (some true) else (if (x797002.length : Int) ≥ x8 then (some (decide ((x797002.length : Int) ≤ (wrap64 (x8 + 2))))) else (some false)))) else (some false))
end
def laws_FnProofs.f (k : Nat) (l0 : List Int) : Option (Bool) := (laws_big.f l0).bind fun t785 => (if t785 = true then (some true) else ((spec_DrawProveBetween.f k l0).bind fun bt786 => ((impl_ProveBetween.f k bt786.1 bt786.2.1 bt786.2.2).bind fun bt791 => ((spec_ProveBetween.f k bt786.1 bt786.2.1 bt786.2.2).bind fun bt797 => (if bt791.1 = bt797.1 then (if bt791.2.1 = bt797.2.1 then (laws_FnProofs.j0 k bt786.1 bt786.2.1 bt786.2.2 ((bt791.2.2.length : Int) != (bt797.2.2.length : Int)) bt791.1 bt791.2.1 bt791.2.2) else (laws_FnProofs.j0 k bt786.1 bt786.2.1 bt786.2.2 true bt791.1 bt791.2.1 bt791.2.2)) else (laws_FnProofs.j0 k bt786.1 bt786.2.1 bt786.2.2 true bt791.1 bt791.2.1 bt791.2.2))))))
def laws_FnProofs.T14 : Bool × List (List Nat × List Nat) := (true, [([], []), ([0], [0]), ([], []), ([1, 2], [1, 2]), ([3], [3]), ([4], [4]), ([], []), ([], []), ([7], [7]), ([], []), ([8, 9], [8, 9]), ([6, 10], [6, 10]), ([11], [11]), ([5, 12], [5, 12]), ([13], [13]), ([14], [14]), ([15, 14], [14, 15]), ([14], [14]), ([16, 17, 14], [14, 16, 17]), ([18, 14], [14, 18]), ([19, 14], [14, 19]), ([14], [14]), ([14], [14]), ([22, 14], [14, 22]), ([14], [14]), ([23, 24, 14], [14, 23, 24]), ([21, 25, 14, 14], [14, 21, 25]), ([20, 26, 26, 14], [14, 20, 26]), ([27, 14], [14, 27]), ([14, 28], [14, 28])])
def laws_FnProofs.B14 : List Nat := [0, 1, 0, 7, 15, 31, 0, 0, 128, 0, 896, 1984, 4032, 8191, 16383, 32767, 65535, 32767, 262143, 524287, 1048575, 32767, 32767, 4227071, 32767, 29392895, 65044479, 134217727, 268435455, 536870911]
theorem laws_FnProofs.tab14 : rtab .any (opsOf Try.f7 14) = laws_FnProofs.T14 := by kernel_rfl
theorem laws_FnProofs.bits14 : waitsOk laws_FnProofs.T14.2 laws_FnProofs.B14 = true := by kernel_rfl
set_option maxHeartbeats 8000000 in
set_option maxRecDepth 100000 in
theorem laws_FnProofs.calls (k : Nat) (A0 : Option Addr) (c0 : Nat) (l0 : List Int) (r : Bool) (w : World) (hr0 : Kd.C (Kd.int .u8) w A0 l0.length l0) (hc0 : l0.length ≤ c0) (h : laws_FnProofs.f k l0 = some r) :
  Calls Try.prog 7 #[.slice A0 l0.length c0] w fun e w' => e = .returned (.bool r) ∧ Below w.heap.size w w' := by
  have hu44 := Try.underlying44
  have hu26 := Try.underlying26
  have HR0 := Aside0.mk hr0
  have HC0 := Aside0.mk hc0
  clear hr0 hc0
  have HB := Aside0.mk (Below.refl w.heap.size w)
  have H : ((laws_big.f l0).bind fun t785 => (if t785 = true then (some true) else ((spec_DrawProveBetween.f k l0).bind fun bt786 => ((impl_ProveBetween.f k bt786.1 bt786.2.1 bt786.2.2).bind fun bt791 => ((spec_ProveBetween.f k bt786.1 bt786.2.1 bt786.2.2).bind fun bt797 => (if bt791.1 = bt797.1 then (if bt791.2.1 = bt797.2.1 then (laws_FnProofs.j0 k bt786.1 bt786.2.1 bt786.2.2 ((bt791.2.2.length : Int) != (bt797.2.2.length : Int)) bt791.1 bt791.2.1 bt791.2.2) else (laws_FnProofs.j0 k bt786.1 bt786.2.1 bt786.2.2 true bt791.1 bt791.2.1 bt791.2.2)) else (laws_FnProofs.j0 k bt786.1 bt786.2.1 bt786.2.2 true bt791.1 bt791.2.1 bt791.2.2))))))) = some r := h
  clear h
  replace H := Option.bind_eq_some_iff.mp H
  obtain ⟨t785, A20, H⟩ := H
  have A2 := Aside0.mk A20
  clear A20
  by_cases c3 : t785 = true
  · subst c3
    have H1 : (some true) = some r := by rw [if_pos rfl] at H; exact H
    clear H
    have H := H1
    clear H1
    obtain rfl := Option.some.inj H
    go_enter Try.func7, Try.ntmps7
    go_wp2_with (first | ((with_reducible refine gate_callee (f := 9) rfl ?_); refine goesL_ (some 11) rfl rfl Try.func9 (by kernel_rfl) rfl #[.slice A0 l0.length c0] rfl al_ ?_; (with_reducible refine (laws_big.calls _ _ l0 true _ ?side1 ?side2 A2.out).mono ?_); (case side1 => exact kc_ HR0.out); (case side2 => exact HC0.out); rintro e w' ⟨rfl, ⟨nd, rfl⟩⟩; refine ⟨_, rfl, ?_⟩))
    go_ret
    exact ⟨by first | rfl | (simp [errW_none, errW_some] <;> rfl) | (simp [*, errW_none, errW_some] <;> rfl), be_ HB.out⟩
  · replace c3 := Bool.eq_false_iff.mpr c3
    subst c3
    have H1 : ((spec_DrawProveBetween.f k l0).bind fun bt786 => ((impl_ProveBetween.f k bt786.1 bt786.2.1 bt786.2.2).bind fun bt791 => ((spec_ProveBetween.f k bt786.1 bt786.2.1 bt786.2.2).bind fun bt797 => (if bt791.1 = bt797.1 then (if bt791.2.1 = bt797.2.1 then (laws_FnProofs.j0 k bt786.1 bt786.2.1 bt786.2.2 ((bt791.2.2.length : Int) != (bt797.2.2.length : Int)) bt791.1 bt791.2.1 bt791.2.2) else (laws_FnProofs.j0 k bt786.1 bt786.2.1 bt786.2.2 true bt791.1 bt791.2.1 bt791.2.2)) else (laws_FnProofs.j0 k bt786.1 bt786.2.1 bt786.2.2 true bt791.1 bt791.2.1 bt791.2.2))))) = some r := by rw [if_neg (show ¬ (false = true) by decide)] at H; exact H
    clear H
    have H := H1
    clear H1
    replace H := Option.bind_eq_some_iff.mp H
    obtain ⟨⟨t786, t787, t788⟩, A40, H⟩ := H; try dsimp only at H
    have A4 := Aside0.mk A40
    clear A40
    replace H := Option.bind_eq_some_iff.mp H
    obtain ⟨⟨t791, t792, t793⟩, A50, H⟩ := H; try dsimp only at H
    have A5 := Aside0.mk A50
    clear A50
    replace H := Option.bind_eq_some_iff.mp H
    obtain ⟨⟨t797, t798, t799⟩, A60, H⟩ := H; try dsimp only at H
    have A6 := Aside0.mk A60
    clear A60
    have HC7 := Aside0.mk H
    clear H
    go_enter Try.func7, Try.ntmps7
    go_upto_region 6 with (first | ((with_reducible refine gate_callee (f := 9) rfl ?_); refine goesL_ (some 11) rfl rfl Try.func9 (by kernel_rfl) rfl #[.slice A0 l0.length c0] rfl al_ ?_; (with_reducible refine (laws_big.calls _ _ l0 false _ ?side1 ?side2 A2.out).mono ?_); (case side1 => exact kc_ HR0.out); (case side2 => exact HC0.out); rintro e w' ⟨rfl, ⟨nd, rfl⟩⟩; refine ⟨_, rfl, ?_⟩) | ((with_reducible refine gate_callee (f := 36) rfl ?_); refine goesL_ (some 14) rfl rfl Try.func36 (by kernel_rfl) rfl #[.slice A0 l0.length c0] rfl al_ ?_; (with_reducible refine (spec_DrawProveBetween.calls k _ _ l0 t786 t787 t788 _ ?side1 ?side2 A4.out).mono ?_); (case side1 => exact kc_ HR0.out); (case side2 => exact HC0.out); rintro e w8 ⟨v789, rfl, ho0, hb⟩; refine ⟨_, rfl, ?_⟩; have n0_ := Aside0.mk (Kd.R_lower ho0 (below_size (be_ HB.out))); have n1_ := Aside0.mk (below_step (be_ HB.out) hb); clear HB; have HO790 := n0_; have HB := n1_; clear n0_ n1_; (try clear hb); (try clear hb2); (try clear hk); (try clear hi); (try clear ho0); obtain ⟨Ao9, co9, eo9⟩ := Kd.R_slice HO790.out; subst eo9) | ((with_reducible refine gate_callee (f := 28) rfl ?_); refine goesL_ (some 21) rfl rfl Try.func28 (by kernel_rfl) rfl #[.slice Ao9 t786.length co9, .string t787, .string t788] rfl al_ ?_; (with_reducible refine (impl_ProveBetween.calls k _ _ t786 t787 t788 t791 t792 t793 _ ?side1 ?side2 A5.out).mono ?_); (case side1 => exact kc_ (Kd.R_reads' HO790.out).2.2); (case side2 => exact (Kd.R_reads' HO790.out).2.1); rintro e w10 ⟨v794, rfl, ho0, hb⟩; refine ⟨_, rfl, ?_⟩; have n0_ := Aside0.mk (Kd.R_below (kr_ HO790.out) hb); have n1_ := Aside0.mk (Kd.S_lower ho0 (below_size (be_ HB.out))); have n2_ := Aside0.mk (below_step (be_ HB.out) hb); clear HO790; clear HB; have HO790 := n0_; have HO795 := n1_; have HB := n2_; clear n0_ n1_ n2_; (try clear hb); (try clear hb2); (try clear hk); (try clear hi); (try clear ho0)) | ((with_reducible refine gate_dst (N := 6) rfl ?_); (try (refine gate_guard (by rfl) ?_; dsimp only)); refine box_event ?hg (N := 6) ?hd (cs := #[.int .i64 0, .int .i64 0, .slice none 0 0]) (t := 44) ?hr ?_; (case hd => rfl); (case hg => rfl); (case hr => first | (go_simp; done) | (go_simp; rfl)); intro gb796 hg w11 hbox hb; have n0_ := Aside0.mk (Kd.R_below (kr_ HO790.out) hb); have n1_ := Aside0.mk (Kd.S_below (by (with_reducible repeat (first | apply Kd.S_alloc | apply Kd.S_drewN | apply Kd.S_drew)); exact HO795.out) hb); have n2_ := Aside0.mk (below_step (be_ HB.out) hb); have n3_ := Aside0.mk (hbox); have n4_ := Aside0.mk ((by rw [hg]; exact (below_size (be_ HB.out)) : w.heap.size ≤ gb796)); have n5_ := Aside0.mk ((by rw [hg]; exact (below_size (be_ HB.out)) : w.heap.size ≤ gb796)); clear HO790; clear HO795; clear HB; have HO790 := n0_; have HO795 := n1_; have HB := n2_; have BK796 := n3_; have GW796 := n4_; have GE796 := n5_; clear n0_ n1_ n2_ n3_ n4_ n5_; clear hb hbox hg; have hcz12_0 : w11.cell? ⟨gb796, 0, none⟩ = some (.int .i64 0) := (blk_cell BK796.out 0).trans rfl; have hcz12_1 : w11.cell? ⟨gb796, 1, none⟩ = some (.int .i64 0) := (blk_cell BK796.out 1).trans rfl; have hcz12_2 : w11.cell? ⟨gb796, 2, none⟩ = some (.slice none 0 0) := (blk_cell BK796.out 2).trans rfl; have hfz12_0 := blk_frozen BK796.out 0; have hfz12_1 := blk_frozen BK796.out 1; have hfz12_2 := blk_frozen BK796.out 2; obtain ⟨Ao13, co13, eo13⟩ := Kd.S_slice HO795.out; subst eo13) | ((with_reducible refine gate_callee (f := 37) rfl ?_); refine goesL_ (some 25) rfl rfl Try.func37 (by kernel_rfl) rfl #[.slice Ao9 t786.length co9, .string t787, .string t788] rfl al_ ?_; (with_reducible refine (spec_ProveBetween.calls k _ _ t786 t787 t788 t797 t798 t799 _ ?side1 ?side2 A6.out).mono ?_); (case side1 => refine (Kd.R_reads' (e := 26) (base := w.heap.size) (ok := fun k_ => True) (n := t786.length) (c := co9) ?_).2.2; exact (by (with_reducible repeat (first | apply Kd.R_alloc | apply Kd.R_drewN | apply Kd.R_drew)); exact (Kd.R_mono (Kd.R_far (p := ⟨gb796, 2, none⟩) (Kd.R_far (p := ⟨gb796, 1, none⟩) (Kd.R_far (p := ⟨gb796, 0, none⟩) (Kd.R_types HO790.out BK796.out (by decide)) (fun _ hk => hk.2) (.int .i64 t791)) (fun _ hk => hk.2) (.int .i64 t792)) (fun _ hk => hk.2) (.slice Ao13 t793.length co13)) (fun _ h_ => h_.1)))); (case side2 => exact (Kd.R_reads' HO790.out).2.1); rintro e w14 ⟨v800, rfl, ho0, hb⟩; refine ⟨_, rfl, ?_⟩; have n0_ := Aside0.mk (Kd.R_below (by (with_reducible repeat (first | apply Kd.R_alloc | apply Kd.R_drewN | apply Kd.R_drew)); exact (Kd.R_mono (Kd.R_far (p := ⟨gb796, 2, none⟩) (Kd.R_far (p := ⟨gb796, 1, none⟩) (Kd.R_far (p := ⟨gb796, 0, none⟩) (Kd.R_types HO790.out BK796.out (by decide)) (fun _ hk => hk.2) (.int .i64 t791)) (fun _ hk => hk.2) (.int .i64 t792)) (fun _ hk => hk.2) (.slice Ao13 t793.length co13)) (fun _ h_ => h_.1))) hb); have n1_ := Aside0.mk (Kd.S_elder' (by (with_reducible repeat (first | apply Kd.S_alloc | apply Kd.S_drewN | apply Kd.S_drew)); exact (Kd.S_mono (Kd.S_far (p := ⟨gb796, 2, none⟩) (Kd.S_far (p := ⟨gb796, 1, none⟩) (Kd.S_far (p := ⟨gb796, 0, none⟩) (Kd.S_types HO795.out BK796.out (by decide)) (fun _ hk => hk.2) (.int .i64 t791)) (fun _ hk => hk.2) (.int .i64 t792)) (fun _ hk => hk.2) (.slice Ao13 t793.length co13)) (fun _ h_ => h_.1))) (Kd.S_base ho0) hb); have n2_ := Aside0.mk (Kd.S_lower (Kd.S_new' ho0 (Kd.S_lt (by (with_reducible repeat (first | apply Kd.S_alloc | apply Kd.S_drewN | apply Kd.S_drew)); exact (Kd.S_mono (Kd.S_far (p := ⟨gb796, 2, none⟩) (Kd.S_far (p := ⟨gb796, 1, none⟩) (Kd.S_far (p := ⟨gb796, 0, none⟩) (Kd.S_types HO795.out BK796.out (by decide)) (fun _ hk => hk.2) (.int .i64 t791)) (fun _ hk => hk.2) (.int .i64 t792)) (fun _ hk => hk.2) (.slice Ao13 t793.length co13)) (fun _ h_ => h_.1))))) (below_size (bs_ HB.out GE796.out))); have n3_ := Aside0.mk (blk_below (g := gb796) (o := .cells #[.int .i64 t791, .int .i64 t792, .slice Ao13 t793.length co13] 44 (0, 0)) (by (with_reducible repeat (first | refine blk_drewN ?_ _ | refine blk_drew ?_ | refine blk_alloc ?_ _)); refine blk_put (cs := #[.int .i64 t791, .int .i64 t792, .slice none 0 0]) ?_ 2 _ rfl; (with_reducible repeat (first | refine blk_drewN ?_ _ | refine blk_drew ?_ | refine blk_alloc ?_ _)); refine blk_put (cs := #[.int .i64 t791, .int .i64 0, .slice none 0 0]) ?_ 1 _ rfl; (with_reducible repeat (first | refine blk_drewN ?_ _ | refine blk_drew ?_ | refine blk_alloc ?_ _)); refine blk_put (cs := #[.int .i64 0, .int .i64 0, .slice none 0 0]) ?_ 0 _ rfl; (with_reducible repeat (first | refine blk_drewN ?_ _ | refine blk_drew ?_ | refine blk_alloc ?_ _)); exact BK796.out) hb); have n4_ := Aside0.mk (below_step (bs_ HB.out GE796.out) hb); clear HO790; clear HO795; clear BK796; clear HB; have HO790 := n0_; have HO795 := n1_; have HO801 := n2_; have BK796 := n3_; have HB := n4_; clear n0_ n1_ n2_ n3_ n4_; (try clear hb); (try clear hb2); (try clear hk); (try clear hi); (try clear ho0)) | ((with_reducible refine gate_dst (N := 7) rfl ?_); (try (refine gate_guard (by rfl) ?_; dsimp only)); refine box_event ?hg (N := 7) ?hd (cs := #[.int .i64 0, .int .i64 0, .slice none 0 0]) (t := 44) ?hr ?_; (case hd => rfl); (case hg => rfl); (case hr => first | (go_simp; done) | (go_simp; rfl)); intro gb802 hg w15 hbox hb; have n0_ := Aside0.mk (Kd.R_below (kr_ HO790.out) hb); have n1_ := Aside0.mk (Kd.S_below (by (with_reducible repeat (first | apply Kd.S_alloc | apply Kd.S_drewN | apply Kd.S_drew)); exact HO795.out) hb); have n2_ := Aside0.mk (Kd.S_below (by (with_reducible repeat (first | apply Kd.S_alloc | apply Kd.S_drewN | apply Kd.S_drew)); exact HO801.out) hb); have n3_ := Aside0.mk (blk_below (g := gb796) (o := .cells #[.int .i64 t791, .int .i64 t792, .slice Ao13 t793.length co13] 44 (0, 0)) (bk_ BK796.out) hb); have n4_ := Aside0.mk (below_step (bs_ HB.out GE796.out) hb); have n5_ := Aside0.mk (hbox); have n6_ := Aside0.mk ((by rw [hg]; exact (below_size (bs_ HB.out GE796.out)) : w.heap.size ≤ gb802)); have n7_ := Aside0.mk ((by rw [hg]; exact (below_size (bs_ HB.out GE796.out)) : w.heap.size ≤ gb802)); have n8_ := Aside0.mk ((by rw [hg]; exact Nat.ne_of_lt (blk_lt (g := gb796) (o := .cells #[.int .i64 t791, .int .i64 t792, .slice Ao13 t793.length co13] 44 (0, 0)) (bk_ BK796.out)) : gb796 ≠ gb802)); have n9_ := Aside0.mk ((by rw [hg]; exact Nat.ne_of_gt (blk_lt (g := gb796) (o := .cells #[.int .i64 t791, .int .i64 t792, .slice Ao13 t793.length co13] 44 (0, 0)) (bk_ BK796.out)) : gb802 ≠ gb796)); clear HO790; clear HO795; clear HO801; clear BK796; clear HB; have HO790 := n0_; have HO795 := n1_; have HO801 := n2_; have BK796 := n3_; have HB := n4_; have BK802 := n5_; have GW802 := n6_; have GE802 := n7_; have NB796_802 := n8_; have NB802_796 := n9_; clear n0_ n1_ n2_ n3_ n4_ n5_ n6_ n7_ n8_ n9_; clear hb hbox hg; have hnb16 := NB802_796.out; have hnc16 := NB796_802.out; have hcz17_0 : w15.cell? ⟨gb802, 0, none⟩ = some (.int .i64 0) := (blk_cell BK802.out 0).trans rfl; have hcz17_1 : w15.cell? ⟨gb802, 1, none⟩ = some (.int .i64 0) := (blk_cell BK802.out 1).trans rfl; have hcz17_2 : w15.cell? ⟨gb802, 2, none⟩ = some (.slice none 0 0) := (blk_cell BK802.out 2).trans rfl; have hfz17_0 := blk_frozen BK802.out 0; have hfz17_1 := blk_frozen BK802.out 1; have hfz17_2 := blk_frozen BK802.out 2; obtain ⟨Ao18, co18, eo18⟩ := Kd.S_slice HO801.out; subst eo18))
    (try simp only [Act.put, sa_, sz_, ss_])
    go_cut [46] (fun v46 wc => ∃ (kq : Nat) (x46_6 : Bool), v46 = .bool x46_6 ∧ Aside0 (laws_FnProofs.j0 kq t786 t787 t788 x46_6 t791 t792 t793 = some r) ∧ Aside0 (kq ≤ k) ∧ Aside0 (Kd.R k26 26 wc w.heap.size (fun _ => True) (.slice Ao9 t786.length co9) t786) ∧ Aside0 (Kd.S k63 63 wc w.heap.size (fun k_ => some k_ ≠ ((.slice Ao18 t799.length co18) : Value).ownBlock) (.slice Ao13 t793.length co13) t793) ∧ Aside0 (Kd.S k63 63 wc w.heap.size (fun k_ => some k_ ≠ ((.slice Ao13 t793.length co13) : Value).ownBlock) (.slice Ao18 t799.length co18) t799) ∧ Aside0 (wc.heap[gb796]? = some (.cells #[.int .i64 t791, .int .i64 t792, (.slice Ao13 t793.length co13)] 44 (0, 0))) ∧ Aside0 (wc.heap[gb802]? = some (.cells #[.int .i64 t797, .int .i64 t798, (.slice Ao18 t799.length co18)] 44 (0, 0))) ∧ Aside0 (Below w.heap.size w wc))
    case first =>
     have H := HC7.out
     clear HC7
     by_cases c19 : t791 = t797
     · rw [if_pos c19] at H
       have c19b0 : (t791 == t797) = true := beq_iff_eq.mpr c19
       have c19b1 : (t791 != t797) = false := bne_eq_false_iff_eq.mpr c19
       clear c19
       (first | rw [c19b0] | (simp only [i64_w, i32_w]; rw [c19b0]) | skip)
       by_cases c20 : t792 = t798
       · rw [if_pos c20] at H
         have c20b0 : (t792 == t798) = true := beq_iff_eq.mpr c20
         have c20b1 : (t792 != t798) = false := bne_eq_false_iff_eq.mpr c20
         clear c20
         have H' := Aside0.mk H
         clear H
         have hnb21 := NB796_802.out
         have hnc21 := NB802_796.out
         have hcz22_0 : w15.cell? ⟨gb796, 0, none⟩ = some (.int .i64 t791) := (blk_cell BK796.out 0).trans rfl
         have hcz22_1 : w15.cell? ⟨gb796, 1, none⟩ = some (.int .i64 t792) := (blk_cell BK796.out 1).trans rfl
         have hcz22_2 : w15.cell? ⟨gb796, 2, none⟩ = some (.slice Ao13 t793.length co13) := (blk_cell BK796.out 2).trans rfl
         have hfz22_0 := blk_frozen BK796.out 0
         have hfz22_1 := blk_frozen BK796.out 1
         have hfz22_2 := blk_frozen BK796.out 2
         have hcz23_0 : w15.cell? ⟨gb802, 0, none⟩ = some (.int .i64 0) := (blk_cell BK802.out 0).trans rfl
         have hcz23_1 : w15.cell? ⟨gb802, 1, none⟩ = some (.int .i64 0) := (blk_cell BK802.out 1).trans rfl
         have hcz23_2 : w15.cell? ⟨gb802, 2, none⟩ = some (.slice none 0 0) := (blk_cell BK802.out 2).trans rfl
         have hfz23_0 := blk_frozen BK802.out 0
         have hfz23_1 := blk_frozen BK802.out 1
         have hfz23_2 := blk_frozen BK802.out 2
         go_wp2
         go_meet
         case rel => exact ⟨_, (((t793.length : Int) != (t799.length : Int))), (by first | rfl | (simp; done) | (simp [*]; done)), H', ⟨by first | omega | exact Nat.le_refl _⟩, ⟨by (with_reducible repeat (first | apply Kd.R_alloc | apply Kd.R_drewN | apply Kd.R_drew)); exact Kd.R_mono (Kd.R_far (p := ⟨gb802, 2, none⟩) (Kd.R_far (p := ⟨gb802, 1, none⟩) (Kd.R_far (p := ⟨gb802, 0, none⟩) (Kd.R_types HO790.out BK802.out (by decide)) (fun _ hk => hk.2) (.int .i64 t797)) (fun _ hk => hk.2) (.int .i64 t798)) (fun _ hk => hk.2) (.slice Ao18 t799.length co18)) (fun _ hk => trivial)⟩, ⟨by (with_reducible repeat (first | apply Kd.S_alloc | apply Kd.S_drewN | apply Kd.S_drew)); exact Kd.S_mono (Kd.S_far (p := ⟨gb802, 2, none⟩) (Kd.S_far (p := ⟨gb802, 1, none⟩) (Kd.S_far (p := ⟨gb802, 0, none⟩) (Kd.S_types HO795.out BK802.out (by decide)) (fun _ hk => hk.2) (.int .i64 t797)) (fun _ hk => hk.2) (.int .i64 t798)) (fun _ hk => hk.2) (.slice Ao18 t799.length co18)) (fun _ hk => hk.1.2)⟩, ⟨by (with_reducible repeat (first | apply Kd.S_alloc | apply Kd.S_drewN | apply Kd.S_drew)); exact Kd.S_mono (Kd.S_far (p := ⟨gb802, 2, none⟩) (Kd.S_far (p := ⟨gb802, 1, none⟩) (Kd.S_far (p := ⟨gb802, 0, none⟩) (Kd.S_types HO801.out BK802.out (by decide)) (fun _ hk => hk.2) (.int .i64 t797)) (fun _ hk => hk.2) (.int .i64 t798)) (fun _ hk => hk.2) (.slice Ao18 t799.length co18)) (fun _ hk => hk.1.2)⟩, ⟨by (with_reducible repeat (first | refine blk_drewN ?_ _ | refine blk_drew ?_ | refine blk_alloc ?_ _)); refine blk_far ?_ NB796_802.out _; (with_reducible repeat (first | refine blk_drewN ?_ _ | refine blk_drew ?_ | refine blk_alloc ?_ _)); refine blk_far ?_ NB796_802.out _; (with_reducible repeat (first | refine blk_drewN ?_ _ | refine blk_drew ?_ | refine blk_alloc ?_ _)); refine blk_far ?_ NB796_802.out _; (with_reducible repeat (first | refine blk_drewN ?_ _ | refine blk_drew ?_ | refine blk_alloc ?_ _)); exact BK796.out⟩, ⟨by (with_reducible repeat (first | refine blk_drewN ?_ _ | refine blk_drew ?_ | refine blk_alloc ?_ _)); refine blk_put (cs := #[.int .i64 t797, .int .i64 t798, .slice none 0 0]) ?_ 2 _ rfl; (with_reducible repeat (first | refine blk_drewN ?_ _ | refine blk_drew ?_ | refine blk_alloc ?_ _)); refine blk_put (cs := #[.int .i64 t797, .int .i64 0, .slice none 0 0]) ?_ 1 _ rfl; (with_reducible repeat (first | refine blk_drewN ?_ _ | refine blk_drew ?_ | refine blk_alloc ?_ _)); refine blk_put (cs := #[.int .i64 0, .int .i64 0, .slice none 0 0]) ?_ 0 _ rfl; (with_reducible repeat (first | refine blk_drewN ?_ _ | refine blk_drew ?_ | refine blk_alloc ?_ _)); exact BK802.out⟩, ⟨by repeat (first | (with_reducible first | exact HB.out | apply below_alloc | apply pw_below_drewN | apply below_drew1 | refine below_set ?_ GE796.out | refine below_set ?_ GE802.out) | exact HB.out)⟩⟩
       · rw [if_neg c20] at H
         have c20b0 : (t792 == t798) = false := beq_eq_false_iff_ne.mpr c20
         have c20b1 : (t792 != t798) = true := bne_iff_ne.mpr c20
         have H' := Aside0.mk H
         clear H
         have hnb24 := NB796_802.out
         have hnc24 := NB802_796.out
         have hcz25_0 : w15.cell? ⟨gb796, 0, none⟩ = some (.int .i64 t791) := (blk_cell BK796.out 0).trans rfl
         have hcz25_1 : w15.cell? ⟨gb796, 1, none⟩ = some (.int .i64 t792) := (blk_cell BK796.out 1).trans rfl
         have hcz25_2 : w15.cell? ⟨gb796, 2, none⟩ = some (.slice Ao13 t793.length co13) := (blk_cell BK796.out 2).trans rfl
         have hfz25_0 := blk_frozen BK796.out 0
         have hfz25_1 := blk_frozen BK796.out 1
         have hfz25_2 := blk_frozen BK796.out 2
         have hcz26_0 : w15.cell? ⟨gb802, 0, none⟩ = some (.int .i64 0) := (blk_cell BK802.out 0).trans rfl
         have hcz26_1 : w15.cell? ⟨gb802, 1, none⟩ = some (.int .i64 0) := (blk_cell BK802.out 1).trans rfl
         have hcz26_2 : w15.cell? ⟨gb802, 2, none⟩ = some (.slice none 0 0) := (blk_cell BK802.out 2).trans rfl
         have hfz26_0 := blk_frozen BK802.out 0
         have hfz26_1 := blk_frozen BK802.out 1
         have hfz26_2 := blk_frozen BK802.out 2
         go_wp2
         go_meet
         case rel => exact ⟨_, (true), (by first | rfl | (simp; done) | (simp [*]; done)), H', ⟨by first | omega | exact Nat.le_refl _⟩, ⟨by (with_reducible repeat (first | apply Kd.R_alloc | apply Kd.R_drewN | apply Kd.R_drew)); exact Kd.R_mono (Kd.R_far (p := ⟨gb802, 2, none⟩) (Kd.R_far (p := ⟨gb802, 1, none⟩) (Kd.R_far (p := ⟨gb802, 0, none⟩) (Kd.R_types HO790.out BK802.out (by decide)) (fun _ hk => hk.2) (.int .i64 t797)) (fun _ hk => hk.2) (.int .i64 t798)) (fun _ hk => hk.2) (.slice Ao18 t799.length co18)) (fun _ hk => trivial)⟩, ⟨by (with_reducible repeat (first | apply Kd.S_alloc | apply Kd.S_drewN | apply Kd.S_drew)); exact Kd.S_mono (Kd.S_far (p := ⟨gb802, 2, none⟩) (Kd.S_far (p := ⟨gb802, 1, none⟩) (Kd.S_far (p := ⟨gb802, 0, none⟩) (Kd.S_types HO795.out BK802.out (by decide)) (fun _ hk => hk.2) (.int .i64 t797)) (fun _ hk => hk.2) (.int .i64 t798)) (fun _ hk => hk.2) (.slice Ao18 t799.length co18)) (fun _ hk => hk.1.2)⟩, ⟨by (with_reducible repeat (first | apply Kd.S_alloc | apply Kd.S_drewN | apply Kd.S_drew)); exact Kd.S_mono (Kd.S_far (p := ⟨gb802, 2, none⟩) (Kd.S_far (p := ⟨gb802, 1, none⟩) (Kd.S_far (p := ⟨gb802, 0, none⟩) (Kd.S_types HO801.out BK802.out (by decide)) (fun _ hk => hk.2) (.int .i64 t797)) (fun _ hk => hk.2) (.int .i64 t798)) (fun _ hk => hk.2) (.slice Ao18 t799.length co18)) (fun _ hk => hk.1.2)⟩, ⟨by (with_reducible repeat (first | refine blk_drewN ?_ _ | refine blk_drew ?_ | refine blk_alloc ?_ _)); refine blk_far ?_ NB796_802.out _; (with_reducible repeat (first | refine blk_drewN ?_ _ | refine blk_drew ?_ | refine blk_alloc ?_ _)); refine blk_far ?_ NB796_802.out _; (with_reducible repeat (first | refine blk_drewN ?_ _ | refine blk_drew ?_ | refine blk_alloc ?_ _)); refine blk_far ?_ NB796_802.out _; (with_reducible repeat (first | refine blk_drewN ?_ _ | refine blk_drew ?_ | refine blk_alloc ?_ _)); exact BK796.out⟩, ⟨by (with_reducible repeat (first | refine blk_drewN ?_ _ | refine blk_drew ?_ | refine blk_alloc ?_ _)); refine blk_put (cs := #[.int .i64 t797, .int .i64 t798, .slice none 0 0]) ?_ 2 _ rfl; (with_reducible repeat (first | refine blk_drewN ?_ _ | refine blk_drew ?_ | refine blk_alloc ?_ _)); refine blk_put (cs := #[.int .i64 t797, .int .i64 0, .slice none 0 0]) ?_ 1 _ rfl; (with_reducible repeat (first | refine blk_drewN ?_ _ | refine blk_drew ?_ | refine blk_alloc ?_ _)); refine blk_put (cs := #[.int .i64 0, .int .i64 0, .slice none 0 0]) ?_ 0 _ rfl; (with_reducible repeat (first | refine blk_drewN ?_ _ | refine blk_drew ?_ | refine blk_alloc ?_ _)); exact BK802.out⟩, ⟨by repeat (first | (with_reducible first | exact HB.out | apply below_alloc | apply pw_below_drewN | apply below_drew1 | refine below_set ?_ GE796.out | refine below_set ?_ GE802.out) | exact HB.out)⟩⟩
     · rw [if_neg c19] at H
       have c19b0 : (t791 == t797) = false := beq_eq_false_iff_ne.mpr c19
       have c19b1 : (t791 != t797) = true := bne_iff_ne.mpr c19
       (first | rw [c19b0] | (simp only [i64_w, i32_w]; rw [c19b0]) | skip)
       have H' := Aside0.mk H
       clear H
       have hnb27 := NB796_802.out
       have hnc27 := NB802_796.out
       have hcz28_0 : w15.cell? ⟨gb796, 0, none⟩ = some (.int .i64 t791) := (blk_cell BK796.out 0).trans rfl
       have hcz28_1 : w15.cell? ⟨gb796, 1, none⟩ = some (.int .i64 t792) := (blk_cell BK796.out 1).trans rfl
       have hcz28_2 : w15.cell? ⟨gb796, 2, none⟩ = some (.slice Ao13 t793.length co13) := (blk_cell BK796.out 2).trans rfl
       have hfz28_0 := blk_frozen BK796.out 0
       have hfz28_1 := blk_frozen BK796.out 1
       have hfz28_2 := blk_frozen BK796.out 2
       have hcz29_0 : w15.cell? ⟨gb802, 0, none⟩ = some (.int .i64 0) := (blk_cell BK802.out 0).trans rfl
       have hcz29_1 : w15.cell? ⟨gb802, 1, none⟩ = some (.int .i64 0) := (blk_cell BK802.out 1).trans rfl
       have hcz29_2 : w15.cell? ⟨gb802, 2, none⟩ = some (.slice none 0 0) := (blk_cell BK802.out 2).trans rfl
       have hfz29_0 := blk_frozen BK802.out 0
       have hfz29_1 := blk_frozen BK802.out 1
       have hfz29_2 := blk_frozen BK802.out 2
       go_wp2
       go_meet
       case rel => exact ⟨_, (true), (by first | rfl | (simp; done) | (simp [*]; done)), H', ⟨by first | omega | exact Nat.le_refl _⟩, ⟨by (with_reducible repeat (first | apply Kd.R_alloc | apply Kd.R_drewN | apply Kd.R_drew)); exact Kd.R_mono (Kd.R_far (p := ⟨gb802, 2, none⟩) (Kd.R_far (p := ⟨gb802, 1, none⟩) (Kd.R_far (p := ⟨gb802, 0, none⟩) (Kd.R_types HO790.out BK802.out (by decide)) (fun _ hk => hk.2) (.int .i64 t797)) (fun _ hk => hk.2) (.int .i64 t798)) (fun _ hk => hk.2) (.slice Ao18 t799.length co18)) (fun _ hk => trivial)⟩, ⟨by (with_reducible repeat (first | apply Kd.S_alloc | apply Kd.S_drewN | apply Kd.S_drew)); exact Kd.S_mono (Kd.S_far (p := ⟨gb802, 2, none⟩) (Kd.S_far (p := ⟨gb802, 1, none⟩) (Kd.S_far (p := ⟨gb802, 0, none⟩) (Kd.S_types HO795.out BK802.out (by decide)) (fun _ hk => hk.2) (.int .i64 t797)) (fun _ hk => hk.2) (.int .i64 t798)) (fun _ hk => hk.2) (.slice Ao18 t799.length co18)) (fun _ hk => hk.1.2)⟩, ⟨by (with_reducible repeat (first | apply Kd.S_alloc | apply Kd.S_drewN | apply Kd.S_drew)); exact Kd.S_mono (Kd.S_far (p := ⟨gb802, 2, none⟩) (Kd.S_far (p := ⟨gb802, 1, none⟩) (Kd.S_far (p := ⟨gb802, 0, none⟩) (Kd.S_types HO801.out BK802.out (by decide)) (fun _ hk => hk.2) (.int .i64 t797)) (fun _ hk => hk.2) (.int .i64 t798)) (fun _ hk => hk.2) (.slice Ao18 t799.length co18)) (fun _ hk => hk.1.2)⟩, ⟨by (with_reducible repeat (first | refine blk_drewN ?_ _ | refine blk_drew ?_ | refine blk_alloc ?_ _)); refine blk_far ?_ NB796_802.out _; (with_reducible repeat (first | refine blk_drewN ?_ _ | refine blk_drew ?_ | refine blk_alloc ?_ _)); refine blk_far ?_ NB796_802.out _; (with_reducible repeat (first | refine blk_drewN ?_ _ | refine blk_drew ?_ | refine blk_alloc ?_ _)); refine blk_far ?_ NB796_802.out _; (with_reducible repeat (first | refine blk_drewN ?_ _ | refine blk_drew ?_ | refine blk_alloc ?_ _)); exact BK796.out⟩, ⟨by (with_reducible repeat (first | refine blk_drewN ?_ _ | refine blk_drew ?_ | refine blk_alloc ?_ _)); refine blk_put (cs := #[.int .i64 t797, .int .i64 t798, .slice none 0 0]) ?_ 2 _ rfl; (with_reducible repeat (first | refine blk_drewN ?_ _ | refine blk_drew ?_ | refine blk_alloc ?_ _)); refine blk_put (cs := #[.int .i64 t797, .int .i64 0, .slice none 0 0]) ?_ 1 _ rfl; (with_reducible repeat (first | refine blk_drewN ?_ _ | refine blk_drew ?_ | refine blk_alloc ?_ _)); refine blk_put (cs := #[.int .i64 0, .int .i64 0, .slice none 0 0]) ?_ 0 _ rfl; (with_reducible repeat (first | refine blk_drewN ?_ _ | refine blk_drew ?_ | refine blk_alloc ?_ _)); exact BK802.out⟩, ⟨by repeat (first | (with_reducible first | exact HB.out | apply below_alloc | apply pw_below_drewN | apply below_drew1 | refine below_set ?_ GE796.out | refine below_set ?_ GE802.out) | exact HB.out)⟩⟩
    case rest =>
     clear HC7
     try clear c1
     try clear c2
     try clear p2
     try clear c3
     try clear c7
     try clear c9
     try clear c16
     try clear c19
     try clear c19b0
     try clear c19b1
     try clear c20
     try clear c20b0
     try clear c20b1
     try clear c21
     try clear c24
     try clear c27
     try clear c28
     try clear hcz12_0
     try clear hcz12_1
     try clear hcz12_2
     try clear hcz17_0
     try clear hcz17_1
     try clear hcz17_2
     try clear hcz22_0
     try clear hcz22_1
     try clear hcz22_2
     try clear hcz23_0
     try clear hcz23_1
     try clear hcz23_2
     try clear hcz25_0
     try clear hcz25_1
     try clear hcz25_2
     try clear hcz26_0
     try clear hcz26_1
     try clear hcz26_2
     try clear hcz28_0
     try clear hcz28_1
     try clear hcz28_2
     try clear hcz29_0
     try clear hcz29_1
     try clear hcz29_2
     try clear hfz12_0
     try clear hfz12_1
     try clear hfz12_2
     try clear hfz17_0
     try clear hfz17_1
     try clear hfz17_2
     try clear hfz22_0
     try clear hfz22_1
     try clear hfz22_2
     try clear hfz23_0
     try clear hfz23_1
     try clear hfz23_2
     try clear hfz25_0
     try clear hfz25_1
     try clear hfz25_2
     try clear hfz26_0
     try clear hfz26_1
     try clear hfz26_2
     try clear hfz28_0
     try clear hfz28_1
     try clear hfz28_2
     try clear hfz29_0
     try clear hfz29_1
     try clear hfz29_2
     obtain ⟨kq, x46_6, rfl, HA, HJ6, HO_3, HO_797002, HO_803002, BK796, BK802, HB⟩ := hcut
     cases kq with
     | zero => exact absurd HA.out (by simp [laws_FnProofs.j0])
     | succ kj6 =>
      have H := HA.out
      clear HA
      simp only [laws_FnProofs.j0] at H
      by_cases c30 : x46_6 = true
      · subst c30
        have H1 : (some false) = some r := by rw [if_pos rfl] at H; exact H
        clear H
        have H := H1
        clear H1
        obtain rfl := Option.some.inj H
        go_wp2
        go_ret
        exact ⟨by first | rfl | (simp [errW_none, errW_some] <;> rfl) | (simp [*, errW_none, errW_some] <;> rfl), by repeat (first | (with_reducible first | exact HB.out | apply below_alloc | apply pw_below_drewN | apply below_drew1 | refine below_set ?_ GE796.out | refine below_set ?_ GE802.out) | exact HB.out)⟩
      · replace c30 := Bool.eq_false_iff.mpr c30
        subst c30
        have H1 : ((impl_Between.f kj6 t786 t787 t788).bind fun t803 => ((spec_PairsOk.f kj6 t786).bind fun t806 => (if t806 = true then (laws_FnProofs.l0 kj6 t786 t787 t788 (t803.length : Int) 0 t791 t792 t793) else (some (t791 == 0))))) = some r := by rw [if_neg (show ¬ (false = true) by decide)] at H; exact H
        clear H
        have H := H1
        clear H1
        replace H := Option.bind_eq_some_iff.mp H
        obtain ⟨t803, A310, H⟩ := H
        have A31 := Aside0.mk A310
        clear A310
        replace H := Option.bind_eq_some_iff.mp H
        obtain ⟨t806, A320, H⟩ := H
        have A32 := Aside0.mk A320
        clear A320
        by_cases c33 : t806 = true
        · subst c33
          have H1 : (laws_FnProofs.l0 kj6 t786 t787 t788 (t803.length : Int) 0 t791 t792 t793) = some r := by rw [if_pos rfl] at H; exact H
          clear H
          have H := H1
          clear H1
          have H' := Aside0.mk H
          clear H
          go_wp2_with (first | ((with_reducible refine gate_callee (f := 27) rfl ?_); refine goesL_ (some 50) rfl rfl Try.func27 (by kernel_rfl) rfl #[.slice Ao9 t786.length co9, .string t787, .string t788] rfl al_ ?_; (with_reducible refine (impl_Between.calls kj6 _ _ t786 t787 t788 t803 _ ?side1 ?side2 A31.out).mono ?_); (case side1 => exact kc_ (Kd.R_reads' HO_3.out).2.2); (case side2 => exact (Kd.R_reads' HO_3.out).2.1); rintro e w34 ⟨v804, rfl, ho0, hb⟩; refine ⟨_, rfl, ?_⟩; have n0_ := Aside0.mk (Kd.R_elder' (kr_ HO_3.out) (Kd.R_base ho0) hb); have n1_ := Aside0.mk (Kd.S_below (by (with_reducible repeat (first | apply Kd.S_alloc | apply Kd.S_drewN | apply Kd.S_drew)); exact HO_797002.out) hb); have n2_ := Aside0.mk (Kd.S_below (by (with_reducible repeat (first | apply Kd.S_alloc | apply Kd.S_drewN | apply Kd.S_drew)); exact HO_803002.out) hb); have n3_ := Aside0.mk (Kd.R_lower (Kd.R_new' ho0 (Kd.R_lt (kr_ HO_3.out))) (below_size (by repeat (first | (with_reducible first | exact HB.out | apply below_alloc | apply pw_below_drewN | apply below_drew1 | refine below_set ?_ GE796.out | refine below_set ?_ GE802.out) | exact HB.out)))); have n4_ := Aside0.mk (blk_below (g := gb796) (o := .cells #[.int .i64 t791, .int .i64 t792, .slice Ao13 t793.length co13] 44 (0, 0)) (bk_ BK796.out) hb); have n5_ := Aside0.mk (blk_below (g := gb802) (o := .cells #[.int .i64 t797, .int .i64 t798, .slice Ao18 t799.length co18] 44 (0, 0)) (bk_ BK802.out) hb); have n6_ := Aside0.mk (below_step (by repeat (first | (with_reducible first | exact HB.out | apply below_alloc | apply pw_below_drewN | apply below_drew1 | refine below_set ?_ GE796.out | refine below_set ?_ GE802.out) | exact HB.out)) hb); clear HO_3; clear HO_797002; clear HO_803002; clear BK796; clear BK802; clear HB; have HO_3 := n0_; have HO_797002 := n1_; have HO_803002 := n2_; have HO805 := n3_; have BK796 := n4_; have BK802 := n5_; have HB := n6_; clear n0_ n1_ n2_ n3_ n4_ n5_ n6_; (try clear hb); (try clear hb2); (try clear hk); (try clear hi); (try clear ho0); obtain ⟨Ao35, co35, eo35⟩ := Kd.R_slice HO805.out; subst eo35) | ((with_reducible refine gate_callee (f := 14) rfl ?_); refine goesL_ (some 53) rfl rfl Try.func14 (by kernel_rfl) rfl #[.slice Ao9 t786.length co9] rfl al_ ?_; (with_reducible refine (spec_PairsOk.calls kj6 _ _ t786 true _ ?side1 ?side2 A32.out).mono ?_); (case side1 => exact kc_ (Kd.R_reads' HO_3.out).2.2); (case side2 => exact (Kd.R_reads' HO_3.out).2.1); rintro e w36 ⟨rfl, hb⟩; refine ⟨_, rfl, ?_⟩; have n0_ := Aside0.mk (Kd.R_below (kr_ HO_3.out) hb); have n1_ := Aside0.mk (Kd.S_below (by (with_reducible repeat (first | apply Kd.S_alloc | apply Kd.S_drewN | apply Kd.S_drew)); exact HO_797002.out) hb); have n2_ := Aside0.mk (Kd.S_below (by (with_reducible repeat (first | apply Kd.S_alloc | apply Kd.S_drewN | apply Kd.S_drew)); exact HO_803002.out) hb); have n3_ := Aside0.mk (Kd.R_below (kr_ HO805.out) hb); have n4_ := Aside0.mk (blk_below (g := gb796) (o := .cells #[.int .i64 t791, .int .i64 t792, .slice Ao13 t793.length co13] 44 (0, 0)) (bk_ BK796.out) hb); have n5_ := Aside0.mk (blk_below (g := gb802) (o := .cells #[.int .i64 t797, .int .i64 t798, .slice Ao18 t799.length co18] 44 (0, 0)) (bk_ BK802.out) hb); have n6_ := Aside0.mk (below_step (by repeat (first | (with_reducible first | exact HB.out | apply below_alloc | apply pw_below_drewN | apply below_drew1 | refine below_set ?_ GE796.out | refine below_set ?_ GE802.out) | exact HB.out)) hb); clear HO_3; clear HO_797002; clear HO_803002; clear HO805; clear BK796; clear BK802; clear HB; have HO_3 := n0_; have HO_797002 := n1_; have HO_803002 := n2_; have HO805 := n3_; have BK796 := n4_; have BK802 := n5_; have HB := n6_; clear n0_ n1_ n2_ n3_ n4_ n5_ n6_; (try clear hb); (try clear hb2); (try clear hk); (try clear hi)))
          go_loopg [9] kj6 (fun kq v9 w' => ∃ (x9_2 : Int), v9 = .int .i64 x9_2 ∧ Aside0 (laws_FnProofs.l0 kq t786 t787 t788 (t803.length : Int) x9_2 t791 t792 t793 = some r) ∧ Aside0 (kq ≤ kj6) ∧ Aside0 (Kd.R k26 26 w' w.heap.size (fun _ => True) (.slice Ao9 t786.length co9) t786) ∧ Aside0 (Kd.S k63 63 w' w.heap.size (fun k_ => some k_ ≠ ((.slice Ao18 t799.length co18) : Value).ownBlock) (.slice Ao13 t793.length co13) t793) ∧ Aside0 (Kd.S k63 63 w' w.heap.size (fun k_ => some k_ ≠ ((.slice Ao13 t793.length co13) : Value).ownBlock) (.slice Ao18 t799.length co18) t799) ∧ Aside0 (w'.heap[gb796]? = some (.cells #[.int .i64 t791, .int .i64 t792, (.slice Ao13 t793.length co13)] 44 (0, 0))) ∧ Aside0 (w'.heap[gb802]? = some (.cells #[.int .i64 t797, .int .i64 t798, (.slice Ao18 t799.length co18)] 44 (0, 0))) ∧ Aside0 (Below w.heap.size w w'))
          case atStart => exact ⟨(0), (by first | rfl | (simp; done) | (simp [*]; done)), H', ⟨Nat.le_refl _⟩, ⟨by (with_reducible repeat (first | apply Kd.R_alloc | apply Kd.R_drewN | apply Kd.R_drew)); exact Kd.R_mono HO_3.out (fun _ hk => trivial)⟩, ⟨by (with_reducible repeat (first | apply Kd.S_alloc | apply Kd.S_drewN | apply Kd.S_drew)); exact HO_797002.out⟩, ⟨by (with_reducible repeat (first | apply Kd.S_alloc | apply Kd.S_drewN | apply Kd.S_drew)); exact HO_803002.out⟩, ⟨by (with_reducible repeat (first | refine blk_drewN ?_ _ | refine blk_drew ?_ | refine blk_alloc ?_ _)); exact BK796.out⟩, ⟨by (with_reducible repeat (first | refine blk_drewN ?_ _ | refine blk_drew ?_ | refine blk_alloc ?_ _)); exact BK802.out⟩, ⟨by repeat (first | (with_reducible first | exact HB.out | apply below_alloc | apply pw_below_drewN | apply below_drew1 | refine below_set ?_ GE796.out | refine below_set ?_ GE802.out) | exact HB.out)⟩⟩
          case round =>
           clear H'
           try clear c1
           try clear c2
           try clear p2
           try clear c3
           try clear c7
           try clear c9
           try clear c14
           try clear c16
           try clear c19
           try clear c19b0
           try clear c19b1
           try clear c20
           try clear c20b0
           try clear c20b1
           try clear c21
           try clear c24
           try clear c27
           try clear c28
           try clear c30
           try clear c33
           try clear c36
           try clear hcz12_0
           try clear hcz12_1
           try clear hcz12_2
           try clear hcz17_0
           try clear hcz17_1
           try clear hcz17_2
           try clear hcz22_0
           try clear hcz22_1
           try clear hcz22_2
           try clear hcz23_0
           try clear hcz23_1
           try clear hcz23_2
           try clear hcz25_0
           try clear hcz25_1
           try clear hcz25_2
           try clear hcz26_0
           try clear hcz26_1
           try clear hcz26_2
           try clear hcz28_0
           try clear hcz28_1
           try clear hcz28_2
           try clear hcz29_0
           try clear hcz29_1
           try clear hcz29_2
           try clear hfz12_0
           try clear hfz12_1
           try clear hfz12_2
           try clear hfz17_0
           try clear hfz17_1
           try clear hfz17_2
           try clear hfz22_0
           try clear hfz22_1
           try clear hfz22_2
           try clear hfz23_0
           try clear hfz23_1
           try clear hfz23_2
           try clear hfz25_0
           try clear hfz25_1
           try clear hfz25_2
           try clear hfz26_0
           try clear hfz26_1
           try clear hfz26_2
           try clear hfz28_0
           try clear hfz28_1
           try clear hfz28_2
           try clear hfz29_0
           try clear hfz29_1
           try clear hfz29_2
           try clear p2
           obtain ⟨x9_2, rfl, HA, HK2, HO_3, HO_797002, HO_803002, BK796, BK802, HB⟩ := hrel
           cases gk with
           | zero => exact absurd HA.out (by simp [laws_FnProofs.l0])
           | succ k2 =>
            have H := HA.out
            clear HA
            simp only [laws_FnProofs.l0] at H
            by_cases c37 : x9_2 < (t793.length : Int)
            · rw [if_pos c37] at H
              have c37b0 : decide (x9_2 < (t793.length : Int)) = true := decide_eq_true c37
              clear c37
              by_cases c38 : 0 ≤ x9_2
              rotate_left
              · rw [if_neg c38] at H; exact absurd H (by simp)
              rw [if_pos c38] at H
              have c38b0 : decide (0 ≤ x9_2) = true := decide_eq_true c38
              clear c38
              obtain ⟨ji39, hji39⟩ : ∃ j_ : Int, (wrap64 (t792 + x9_2)) = j_ := ⟨_, rfl⟩
              replace H : (if 0 ≤ (ji39) then (if (ji39) < (t786.length : Int) then (if (!((((rd_T63 t793 x9_2).f0.f0).toList) == (((rd_T26 t786 (ji39)).f0).toList)) || (!((((rd_T63 t793 x9_2).f0.f1).toList) == (((rd_T26 t786 (ji39)).f1).toList)))) = true then (some false) else ((impl_PathOf.f k2 t786 (ji39)).bind fun t810 => ((laws_sameTexts.f k2 ((rd_T63 t793 x9_2).f1) t810).bind fun t813 => (if t813 = true then (laws_FnProofs.l0 k2 t786 t787 t788 (t803.length : Int) (wrap64 (x9_2 + 1)) t791 t792 t793) else (some false))))) else (none)) else (none)) = some r := by first | (rw [hji39] at H; exact H) | (simp only [hji39] at H ⊢; exact H)
              have hji39w : (IntKind.i64.wrap (t792 + x9_2)) = ji39 := (i64_w _).trans hji39
              by_cases c40 : 0 ≤ (ji39)
              rotate_left
              · rw [if_neg c40] at H; exact absurd H (by simp)
              rw [if_pos c40] at H
              have c40b0 : decide (0 ≤ (ji39)) = true := decide_eq_true c40
              clear c40
              by_cases c41 : (ji39) < (t786.length : Int)
              rotate_left
              · rw [if_neg c41] at H; exact absurd H (by simp)
              rw [if_pos c41] at H
              have c41b0 : decide ((ji39) < (t786.length : Int)) = true := decide_eq_true c41
              clear c41
              by_cases c42 : (!((((rd_T63 t793 x9_2).f0.f0).toList) == (((rd_T26 t786 (ji39)).f0).toList)) || (!((((rd_T63 t793 x9_2).f0.f1).toList) == (((rd_T26 t786 (ji39)).f1).toList)))) = true
              · rw [if_pos c42] at H
                have c42b0 : (!((((rd_T63 t793 x9_2).f0.f0).toList) == (((rd_T26 t786 (ji39)).f0).toList)) || (!((((rd_T63 t793 x9_2).f0.f1).toList) == (((rd_T26 t786 (ji39)).f1).toList)))) = true := c42
                clear c42
                obtain rfl := Option.some.inj H
                have hnb43 := NB796_802.out
                have hnc43 := NB802_796.out
                have hcz44_0 : wr.cell? ⟨gb796, 0, none⟩ = some (.int .i64 t791) := (blk_cell BK796.out 0).trans rfl
                have hcz44_1 : wr.cell? ⟨gb796, 1, none⟩ = some (.int .i64 t792) := (blk_cell BK796.out 1).trans rfl
                have hcz44_2 : wr.cell? ⟨gb796, 2, none⟩ = some (.slice Ao13 t793.length co13) := (blk_cell BK796.out 2).trans rfl
                have hfz44_0 := blk_frozen BK796.out 0
                have hfz44_1 := blk_frozen BK796.out 1
                have hfz44_2 := blk_frozen BK796.out 2
                try go_wp2
                have n0_ := Aside0.mk (Kd.R_drew HO_3.out)
                have n1_ := Aside0.mk (Kd.S_drew HO_797002.out)
                have n2_ := Aside0.mk (Kd.S_drew HO_803002.out)
                have n3_ := Aside0.mk (blk_drew BK796.out)
                have n4_ := Aside0.mk (blk_drew BK802.out)
                have n5_ := Aside0.mk (below_drew1 HB.out)
                clear HO_3
                clear HO_797002
                clear HO_803002
                clear BK796
                clear BK802
                clear HB
                have HO_3 := n0_
                have HO_797002 := n1_
                have HO_803002 := n2_
                have BK796 := n3_
                have BK802 := n4_
                have HB := n5_
                clear n0_ n1_ n2_ n3_ n4_ n5_
                have p807 : 0 ≤ (x9_2 : Int) := of_decide_eq_true (by first | (with_reducible assumption) | assumption)
                have q807 : x9_2 < (t793.length : Int) := of_decide_eq_true (by first | (with_reducible assumption) | assumption)
                obtain ⟨ad807, A807_2, c807_2, e807, hx807_0, hx807_1, hx807_2, hl807_2, hi807_2⟩ := at_T63 (Kd.S_reads' HO_797002.out).2.2 x9_2 p807 q807
                cases e807
                obtain ⟨ce807, hce807, hMe807, hcc807⟩ := Kd.S_get HO_797002.out z63 x9_2 p807 (by first | exact q807 | exact of_decide_eq_true (by first | (with_reducible assumption) | assumption) | (have e_ := (Kd.S_reads' HO_797002.out).1; omega))
                obtain ⟨ve807_2, rfl, ge807_2⟩ := k63_openM hMe807
                have hv807_2 := hcc807 2 _ rfl
                rw [add_field _ _ 2 (by omega)] at hv807_2
                replace hv807_2 := Option.some.inj (hv807_2.symm.trans hx807_2)
                rw [hv807_2] at ge807_2
                have HL807_2 := Aside0.mk (show Kd.R Kd.string 9 _ _ _ _ ((rd_T63 t793 x9_2).f1) from ge807_2)
                clear hv807_2 ge807_2
                clear hcc807 hce807
                have HR807_2 := Aside0.mk hi807_2
                have HC807_2 := Aside0.mk hl807_2
                clear hi807_2 hl807_2
                replace p807 := eq_true p807
                replace q807 := eq_true q807
                have p808 : 0 ≤ ((ji39) : Int) := of_decide_eq_true (by first | (with_reducible assumption) | assumption)
                have q808 : (ji39) < (t786.length : Int) := of_decide_eq_true (by first | (with_reducible assumption) | assumption)
                obtain ⟨ad808, e808, hx808_0, hx808_1⟩ := at_T26 (Kd.R_reads' HO_3.out).2.2 (ji39) p808 q808
                cases e808
                replace p808 := eq_true p808
                replace q808 := eq_true q808
                refine start_ (n := 30) (S := fun w' => w'.cell? ⟨gb796, 0, none⟩ = some (.int .i64 t791) ∧ w'.cell? ⟨gb796, 1, none⟩ = some (.int .i64 t792) ∧ w'.cell? ⟨gb796, 2, none⟩ = some (.slice (some ad807) t793.length co13) ∧ w'.cell? (ad807.add ((x9_2).toNat * 3)) = some (.string ((rd_T63 t793 x9_2).f0.f0)) ∧ w'.cell? ⟨(ad807.add ((x9_2).toNat * 3)).block, (ad807.add ((x9_2).toNat * 3)).off + 1, none⟩ = some (.string ((rd_T63 t793 x9_2).f0.f1)) ∧ w'.cell? ⟨(ad807.add ((x9_2).toNat * 3)).block, (ad807.add ((x9_2).toNat * 3)).off + 2, none⟩ = some (.slice A807_2 ((rd_T63 t793 x9_2).f1).length c807_2) ∧ w'.cell? (ad808.add (((ji39)).toNat * 2)) = some (.string ((rd_T26 t786 (ji39)).f0)) ∧ w'.cell? ⟨(ad808.add (((ji39)).toNat * 2)).block, (ad808.add (((ji39)).toNat * 2)).off + 1, none⟩ = some (.string ((rd_T26 t786 (ji39)).f1))) (ds := []) (bq_ 0 30) (by kernel_rfl) rfl rfl ⟨(blk_cell BK796.out 0).trans rfl, (blk_cell BK796.out 1).trans rfl, (blk_cell BK796.out 2).trans rfl, hx807_0, hx807_1, hx807_2, hx808_0, hx808_1⟩ (fun hHeld => ?_); refine with_tabW laws_FnProofs.tab14 laws_FnProofs.bits14 (fun HT_ HW_ => ?_)
                generalize wr.drew = w45 at HO_3 HO_797002 HO_803002 BK796 BK802 HB HL807_2 HR807_2 hx807_0 hx807_1 hx807_2 hx808_0 hx808_1 hHeld ⊢
                refine pu_ 0 (some 65) (bq_ 1 29) HT_ ?_
                refine pu_ 2 (some 67) #[true, false, true, false, false, false, false, false, false, false, false, false, false, false, false, false, false, false, false, false, false, false, false, false, false, false, false, false, false, false] HT_ ?_
                refine pu_ 6 (some 71) #[true, false, true, false, false, false, true, false, false, false, false, false, false, false, false, false, false, false, false, false, false, false, false, false, false, false, false, false, false, false] HT_ ?_
                refine pu_ 7 (some 72) #[true, false, true, false, false, false, true, true, false, false, false, false, false, false, false, false, false, false, false, false, false, false, false, false, false, false, false, false, false, false] HT_ ?_
                refine pu_ 9 (some 74) #[true, false, true, false, false, false, true, true, false, true, false, false, false, false, false, false, false, false, false, false, false, false, false, false, false, false, false, false, false, false] HT_ ?_
                refine take_ (i := 1) (N := some 66) (v := ?_) (a' := ?_) #[true, true, true, false, false, false, true, true, false, true, false, false, false, false, false, false, false, false, false, false, false, false, false, false, false, false, false, false, false, false] rfl rfl (take_ofW HT_.out HW_.out (by kernel_rfl)) (fun _ _ _ h => h) (Or.inl ⟨by rfl, ?_⟩) hHeld ?_ ?_
                rotate_left
                · rintro w' ⟨s0, s1, s2, s3, s4, s5, s6, s7⟩
                  go_simp
                  with_reducible rfl
                rotate_left
                · simp only [Act.put, sa_, sz_, ss_, i64_w, i32_w]; rfl
                refine pu_ 3 (some 68) #[true, true, true, true, false, false, true, true, false, true, false, false, false, false, false, false, false, false, false, false, false, false, false, false, false, false, false, false, false, false] HT_ ?_
                refine pu_ 4 (some 69) #[true, true, true, true, true, false, true, true, false, true, false, false, false, false, false, false, false, false, false, false, false, false, false, false, false, false, false, false, false, false] HT_ ?_
                refine take_ (i := 5) (N := some 70) (v := ?_) (a' := ?_) #[true, true, true, true, true, true, true, true, false, true, false, false, false, false, false, false, false, false, false, false, false, false, false, false, false, false, false, false, false, false] rfl rfl (take_ofW HT_.out HW_.out (by kernel_rfl)) (fun _ _ _ h => h) (Or.inl ⟨by rfl, ?_⟩) hHeld ?_ ?_
                rotate_left
                · rintro w' ⟨s0, s1, s2, s3, s4, s5, s6, s7⟩
                  go_simp
                  with_reducible rfl
                rotate_left
                · simp only [Act.put, sa_, sz_, ss_, i64_w, i32_w]; rfl
                refine take_ (i := 8) (N := some 73) (v := ?_) (a' := ?_) (bq_ 10 20) rfl rfl (take_ofW HT_.out HW_.out (by kernel_rfl)) (fun _ _ _ h => h) (Or.inl ⟨by rfl, ?_⟩) hHeld ?_ ?_
                rotate_left
                · rintro w' ⟨s0, s1, s2, s3, s4, s5, s6, s7⟩
                  go_simp
                  with_reducible rfl
                rotate_left
                · simp only [Act.put, sa_, sz_, ss_, i64_w, i32_w]; rfl
                refine pu_ 10 (some 75) (bq_ 11 19) HT_ ?_
                refine pu_ 11 (some 76) (bq_ 12 18) HT_ ?_
                refine take_ (i := 12) (N := some 77) (v := ?_) (a' := ?_) (bq_ 13 17) rfl rfl (take_ofW HT_.out HW_.out (by kernel_rfl)) (fun _ _ _ h => h) (Or.inl ⟨by rfl, ?_⟩) hHeld ?_ ?_
                rotate_left
                · rintro w' ⟨s0, s1, s2, s3, s4, s5, s6, s7⟩
                  go_simp
                  with_reducible rfl
                rotate_left
                · simp only [Act.put, sa_, sz_, ss_, i64_w, i32_w]; rfl
                refine pu_ 13 (some 78) (bq_ 14 16) HT_ ?_
                refine pu_ 14 (some 79) (bq_ 15 15) HT_ ?_
                refine pure_ (i := 15) (N := some 80) (v := undef) (a' := ?_) (bq_ 16 14) rfl rfl (any_of HT_.out (by kernel_rfl)) (fun _ _ _ h => h) (Or.inr ⟨by rfl, rfl⟩) ?_ ?_
                rotate_left
                · simp only [Act.put, sa_, sz_, ss_, i64_w, i32_w]; rfl
                refine pure_ (i := 16) (N := some 81) (v := undef) (a' := ?_) (bq_ 17 13) rfl rfl (any_of HT_.out (by kernel_rfl)) (fun _ _ _ h => h) (Or.inr ⟨by rfl, rfl⟩) ?_ ?_
                rotate_left
                · simp only [Act.put, sa_, sz_, ss_, i64_w, i32_w]; rfl
                refine pure_ (i := 17) (N := some 82) (v := undef) (a' := ?_) (bq_ 18 12) rfl rfl (any_of HT_.out (by kernel_rfl)) (fun _ _ _ h => h) (Or.inr ⟨by rfl, rfl⟩) ?_ ?_
                rotate_left
                · simp only [Act.put, sa_, sz_, ss_, i64_w, i32_w]; rfl
                refine pure_ (i := 18) (N := some 83) (v := undef) (a' := ?_) (bq_ 19 11) rfl rfl (any_of HT_.out (by kernel_rfl)) (fun _ _ _ h => h) (Or.inr ⟨by rfl, rfl⟩) ?_ ?_
                rotate_left
                · simp only [Act.put, sa_, sz_, ss_, i64_w, i32_w]; rfl
                refine pure_ (i := 19) (N := some 84) (v := undef) (a' := ?_) (bq_ 20 10) rfl rfl (any_of HT_.out (by kernel_rfl)) (fun _ _ _ h => h) (Or.inr ⟨by rfl, rfl⟩) ?_ ?_
                rotate_left
                · simp only [Act.put, sa_, sz_, ss_, i64_w, i32_w]; rfl
                refine pure_ (i := 20) (N := some 85) (v := undef) (a' := ?_) (bq_ 21 9) rfl rfl (any_of HT_.out (by kernel_rfl)) (fun _ _ _ h => h) (Or.inr ⟨by rfl, rfl⟩) ?_ ?_
                rotate_left
                · simp only [Act.put, sa_, sz_, ss_, i64_w, i32_w]; rfl
                refine pure_ (i := 21) (N := some 86) (v := undef) (a' := ?_) (bq_ 22 8) rfl rfl (any_of HT_.out (by kernel_rfl)) (fun _ _ _ h => h) (Or.inr ⟨by rfl, rfl⟩) ?_ ?_
                rotate_left
                · simp only [Act.put, sa_, sz_, ss_, i64_w, i32_w]; rfl
                refine pure_ (i := 22) (N := some 87) (v := undef) (a' := ?_) (bq_ 23 7) rfl rfl (any_of HT_.out (by kernel_rfl)) (fun _ _ _ h => h) (Or.inr ⟨by rfl, rfl⟩) ?_ ?_
                rotate_left
                · simp only [Act.put, sa_, sz_, ss_, i64_w, i32_w]; rfl
                refine pure_ (i := 23) (N := some 88) (v := undef) (a' := ?_) (bq_ 24 6) rfl rfl (any_of HT_.out (by kernel_rfl)) (fun _ _ _ h => h) (Or.inr ⟨by rfl, rfl⟩) ?_ ?_
                rotate_left
                · simp only [Act.put, sa_, sz_, ss_, i64_w, i32_w]; rfl
                refine pure_ (i := 24) (N := some 89) (v := undef) (a' := ?_) (bq_ 25 5) rfl rfl (any_of HT_.out (by kernel_rfl)) (fun _ _ _ h => h) (Or.inr ⟨by rfl, rfl⟩) ?_ ?_
                rotate_left
                · simp only [Act.put, sa_, sz_, ss_, i64_w, i32_w]; rfl
                refine pure_ (i := 25) (N := some 90) (v := undef) (a' := ?_) (bq_ 26 4) rfl rfl (any_of HT_.out (by kernel_rfl)) (fun _ _ _ h => h) (Or.inr ⟨by rfl, rfl⟩) ?_ ?_
                rotate_left
                · simp only [Act.put, sa_, sz_, ss_, i64_w, i32_w]; rfl
                refine pure_ (i := 26) (N := some 91) (v := undef) (a' := ?_) (bq_ 27 3) rfl rfl (any_of HT_.out (by kernel_rfl)) (fun _ _ _ h => h) (Or.inr ⟨by rfl, rfl⟩) ?_ ?_
                rotate_left
                · simp only [Act.put, sa_, sz_, ss_, i64_w, i32_w]; rfl
                refine pure_ (i := 27) (N := some 92) (v := undef) (a' := ?_) (bq_ 28 2) rfl rfl (any_of HT_.out (by kernel_rfl)) (fun _ _ _ h => h) (Or.inr ⟨by rfl, rfl⟩) ?_ ?_
                rotate_left
                · simp only [Act.put, sa_, sz_, ss_, i64_w, i32_w]; rfl
                refine pure_ (i := 28) (N := some 93) (v := undef) (a' := ?_) (bq_ 29 1) rfl rfl (any_of HT_.out (by kernel_rfl)) (fun _ _ _ h => h) (Or.inr ⟨by rfl, rfl⟩) ?_ ?_
                rotate_left
                · simp only [Act.put, sa_, sz_, ss_, i64_w, i32_w]; rfl
                refine pu_ 29 (some 94) (bq_ 30 0) HT_ ?_
                refine done_ (done_of HT_.out (by kernel_rfl)) ?_
                try go_wp2
                go_ret
                exact ⟨by first | rfl | (simp [errW_none, errW_some] <;> rfl) | (simp only [← hji39]; first | rfl | (simp [errW_none, errW_some] <;> rfl)) | (simp [*, errW_none, errW_some] <;> rfl), by repeat (first | (with_reducible first | exact HB.out | apply below_alloc | apply pw_below_drewN | apply below_drew1 | refine below_set ?_ GE796.out | refine below_set ?_ GE802.out) | exact HB.out)⟩
              · rw [if_neg c42] at H
                have c42b0 : (!((((rd_T63 t793 x9_2).f0.f0).toList) == (((rd_T26 t786 (ji39)).f0).toList)) || (!((((rd_T63 t793 x9_2).f0.f1).toList) == (((rd_T26 t786 (ji39)).f1).toList)))) = false := by simpa using c42
                clear c42
                replace H := Option.bind_eq_some_iff.mp H
                obtain ⟨t810, A460, H⟩ := H
                have A46 := Aside0.mk A460
                clear A460
                replace H := Option.bind_eq_some_iff.mp H
                obtain ⟨t813, A470, H⟩ := H
                have A47 := Aside0.mk A470
                clear A470
                by_cases c48 : t813 = true
                · subst c48
                  have H1 : (laws_FnProofs.l0 k2 t786 t787 t788 (t803.length : Int) (wrap64 (x9_2 + 1)) t791 t792 t793) = some r := by rw [if_pos rfl] at H; exact H
                  clear H
                  have H := H1
                  clear H1
                  have H' := Aside0.mk H
                  clear H
                  have hnb49 := NB796_802.out
                  have hnc49 := NB802_796.out
                  have hcz50_0 : wr.cell? ⟨gb796, 0, none⟩ = some (.int .i64 t791) := (blk_cell BK796.out 0).trans rfl
                  have hcz50_1 : wr.cell? ⟨gb796, 1, none⟩ = some (.int .i64 t792) := (blk_cell BK796.out 1).trans rfl
                  have hcz50_2 : wr.cell? ⟨gb796, 2, none⟩ = some (.slice Ao13 t793.length co13) := (blk_cell BK796.out 2).trans rfl
                  have hfz50_0 := blk_frozen BK796.out 0
                  have hfz50_1 := blk_frozen BK796.out 1
                  have hfz50_2 := blk_frozen BK796.out 2
                  try go_wp2
                  have n0_ := Aside0.mk (Kd.R_drew HO_3.out)
                  have n1_ := Aside0.mk (Kd.S_drew HO_797002.out)
                  have n2_ := Aside0.mk (Kd.S_drew HO_803002.out)
                  have n3_ := Aside0.mk (blk_drew BK796.out)
                  have n4_ := Aside0.mk (blk_drew BK802.out)
                  have n5_ := Aside0.mk (below_drew1 HB.out)
                  clear HO_3
                  clear HO_797002
                  clear HO_803002
                  clear BK796
                  clear BK802
                  clear HB
                  have HO_3 := n0_
                  have HO_797002 := n1_
                  have HO_803002 := n2_
                  have BK796 := n3_
                  have BK802 := n4_
                  have HB := n5_
                  clear n0_ n1_ n2_ n3_ n4_ n5_
                  have p807 : 0 ≤ (x9_2 : Int) := of_decide_eq_true (by first | (with_reducible assumption) | assumption)
                  have q807 : x9_2 < (t793.length : Int) := of_decide_eq_true (by first | (with_reducible assumption) | assumption)
                  obtain ⟨ad807, A807_2, c807_2, e807, hx807_0, hx807_1, hx807_2, hl807_2, hi807_2⟩ := at_T63 (Kd.S_reads' HO_797002.out).2.2 x9_2 p807 q807
                  cases e807
                  obtain ⟨ce807, hce807, hMe807, hcc807⟩ := Kd.S_get HO_797002.out z63 x9_2 p807 (by first | exact q807 | exact of_decide_eq_true (by first | (with_reducible assumption) | assumption) | (have e_ := (Kd.S_reads' HO_797002.out).1; omega))
                  obtain ⟨ve807_2, rfl, ge807_2⟩ := k63_openM hMe807
                  have hv807_2 := hcc807 2 _ rfl
                  rw [add_field _ _ 2 (by omega)] at hv807_2
                  replace hv807_2 := Option.some.inj (hv807_2.symm.trans hx807_2)
                  rw [hv807_2] at ge807_2
                  have HL807_2 := Aside0.mk (show Kd.R Kd.string 9 _ _ _ _ ((rd_T63 t793 x9_2).f1) from ge807_2)
                  clear hv807_2 ge807_2
                  clear hcc807 hce807
                  have HR807_2 := Aside0.mk hi807_2
                  have HC807_2 := Aside0.mk hl807_2
                  clear hi807_2 hl807_2
                  replace p807 := eq_true p807
                  replace q807 := eq_true q807
                  have p808 : 0 ≤ ((ji39) : Int) := of_decide_eq_true (by first | (with_reducible assumption) | assumption)
                  have q808 : (ji39) < (t786.length : Int) := of_decide_eq_true (by first | (with_reducible assumption) | assumption)
                  obtain ⟨ad808, e808, hx808_0, hx808_1⟩ := at_T26 (Kd.R_reads' HO_3.out).2.2 (ji39) p808 q808
                  cases e808
                  replace p808 := eq_true p808
                  replace q808 := eq_true q808
                  have p809 : 0 ≤ (x9_2 : Int) := of_decide_eq_true (by first | (with_reducible assumption) | assumption)
                  have q809 : x9_2 < (t793.length : Int) := of_decide_eq_true (by first | (with_reducible assumption) | assumption)
                  obtain ⟨ad809, A809_2, c809_2, e809, hx809_0, hx809_1, hx809_2, hl809_2, hi809_2⟩ := at_T63 (Kd.S_reads' HO_797002.out).2.2 x9_2 p809 q809
                  obtain rfl : ad807 = ad809 := (by injection e809)
                  obtain ⟨ce809, hce809, hMe809, hcc809⟩ := Kd.S_get HO_797002.out z63 x9_2 p809 (by first | exact q809 | exact of_decide_eq_true (by first | (with_reducible assumption) | assumption) | (have e_ := (Kd.S_reads' HO_797002.out).1; omega))
                  obtain ⟨ve809_2, rfl, ge809_2⟩ := k63_openM hMe809
                  have hv809_2 := hcc809 2 _ rfl
                  rw [add_field _ _ 2 (by omega)] at hv809_2
                  replace hv809_2 := Option.some.inj (hv809_2.symm.trans hx809_2)
                  rw [hv809_2] at ge809_2
                  have HL809_2 := Aside0.mk (show Kd.R Kd.string 9 _ _ _ _ ((rd_T63 t793 x9_2).f1) from ge809_2)
                  clear hv809_2 ge809_2
                  clear hcc809 hce809
                  have HR809_2 := Aside0.mk hi809_2
                  have HC809_2 := Aside0.mk hl809_2
                  clear hi809_2 hl809_2
                  replace p809 := eq_true p809
                  replace q809 := eq_true q809
                  have ea_ := Option.some.inj (hx807_2.symm.trans hx809_2)
                  injection ea_ with ea_ en_ ec_
                  subst ea_
                  subst ec_
                  clear en_
                  refine start_ (n := 30) (S := fun w' => w'.cell? ⟨gb796, 0, none⟩ = some (.int .i64 t791) ∧ w'.cell? ⟨gb796, 1, none⟩ = some (.int .i64 t792) ∧ w'.cell? ⟨gb796, 2, none⟩ = some (.slice (some ad807) t793.length co13) ∧ w'.cell? (ad807.add ((x9_2).toNat * 3)) = some (.string ((rd_T63 t793 x9_2).f0.f0)) ∧ w'.cell? ⟨(ad807.add ((x9_2).toNat * 3)).block, (ad807.add ((x9_2).toNat * 3)).off + 1, none⟩ = some (.string ((rd_T63 t793 x9_2).f0.f1)) ∧ w'.cell? ⟨(ad807.add ((x9_2).toNat * 3)).block, (ad807.add ((x9_2).toNat * 3)).off + 2, none⟩ = some (.slice A807_2 ((rd_T63 t793 x9_2).f1).length c807_2) ∧ w'.cell? (ad808.add (((ji39)).toNat * 2)) = some (.string ((rd_T26 t786 (ji39)).f0)) ∧ w'.cell? ⟨(ad808.add (((ji39)).toNat * 2)).block, (ad808.add (((ji39)).toNat * 2)).off + 1, none⟩ = some (.string ((rd_T26 t786 (ji39)).f1)) ∧ w'.cell? (ad807.add ((x9_2).toNat * 3)) = some (.string ((rd_T63 t793 x9_2).f0.f0)) ∧ w'.cell? ⟨(ad807.add ((x9_2).toNat * 3)).block, (ad807.add ((x9_2).toNat * 3)).off + 1, none⟩ = some (.string ((rd_T63 t793 x9_2).f0.f1)) ∧ w'.cell? ⟨(ad807.add ((x9_2).toNat * 3)).block, (ad807.add ((x9_2).toNat * 3)).off + 2, none⟩ = some (.slice A807_2 ((rd_T63 t793 x9_2).f1).length c807_2)) (ds := []) (bq_ 0 30) (by kernel_rfl) rfl rfl ⟨(blk_cell BK796.out 0).trans rfl, (blk_cell BK796.out 1).trans rfl, (blk_cell BK796.out 2).trans rfl, hx807_0, hx807_1, hx807_2, hx808_0, hx808_1, hx809_0, hx809_1, hx809_2⟩ (fun hHeld => ?_); refine with_tabW laws_FnProofs.tab14 laws_FnProofs.bits14 (fun HT_ HW_ => ?_)
                  generalize wr.drew = w51 at HO_3 HO_797002 HO_803002 BK796 BK802 HB HL807_2 HL809_2 HR807_2 HR809_2 hx807_0 hx807_1 hx807_2 hx808_0 hx808_1 hx809_0 hx809_1 hx809_2 hHeld ⊢
                  refine pu_ 0 (some 65) (bq_ 1 29) HT_ ?_
                  refine pu_ 2 (some 67) #[true, false, true, false, false, false, false, false, false, false, false, false, false, false, false, false, false, false, false, false, false, false, false, false, false, false, false, false, false, false] HT_ ?_
                  refine pu_ 6 (some 71) #[true, false, true, false, false, false, true, false, false, false, false, false, false, false, false, false, false, false, false, false, false, false, false, false, false, false, false, false, false, false] HT_ ?_
                  refine pu_ 7 (some 72) #[true, false, true, false, false, false, true, true, false, false, false, false, false, false, false, false, false, false, false, false, false, false, false, false, false, false, false, false, false, false] HT_ ?_
                  refine pu_ 9 (some 74) #[true, false, true, false, false, false, true, true, false, true, false, false, false, false, false, false, false, false, false, false, false, false, false, false, false, false, false, false, false, false] HT_ ?_
                  refine take_ (i := 1) (N := some 66) (v := ?_) (a' := ?_) #[true, true, true, false, false, false, true, true, false, true, false, false, false, false, false, false, false, false, false, false, false, false, false, false, false, false, false, false, false, false] rfl rfl (take_ofW HT_.out HW_.out (by kernel_rfl)) (fun _ _ _ h => h) (Or.inl ⟨by rfl, ?_⟩) hHeld ?_ ?_
                  rotate_left
                  · rintro w' ⟨s0, s1, s2, s3, s4, s5, s6, s7, s8, s9, s10⟩
                    go_simp
                    with_reducible rfl
                  rotate_left
                  · simp only [Act.put, sa_, sz_, ss_, i64_w, i32_w]; rfl
                  refine pu_ 3 (some 68) #[true, true, true, true, false, false, true, true, false, true, false, false, false, false, false, false, false, false, false, false, false, false, false, false, false, false, false, false, false, false] HT_ ?_
                  refine pu_ 4 (some 69) #[true, true, true, true, true, false, true, true, false, true, false, false, false, false, false, false, false, false, false, false, false, false, false, false, false, false, false, false, false, false] HT_ ?_
                  refine take_ (i := 5) (N := some 70) (v := ?_) (a' := ?_) #[true, true, true, true, true, true, true, true, false, true, false, false, false, false, false, false, false, false, false, false, false, false, false, false, false, false, false, false, false, false] rfl rfl (take_ofW HT_.out HW_.out (by kernel_rfl)) (fun _ _ _ h => h) (Or.inl ⟨by rfl, ?_⟩) hHeld ?_ ?_
                  rotate_left
                  · rintro w' ⟨s0, s1, s2, s3, s4, s5, s6, s7, s8, s9, s10⟩
                    go_simp
                    with_reducible rfl
                  rotate_left
                  · simp only [Act.put, sa_, sz_, ss_, i64_w, i32_w]; rfl
                  refine take_ (i := 8) (N := some 73) (v := ?_) (a' := ?_) (bq_ 10 20) rfl rfl (take_ofW HT_.out HW_.out (by kernel_rfl)) (fun _ _ _ h => h) (Or.inl ⟨by rfl, ?_⟩) hHeld ?_ ?_
                  rotate_left
                  · rintro w' ⟨s0, s1, s2, s3, s4, s5, s6, s7, s8, s9, s10⟩
                    go_simp
                    with_reducible rfl
                  rotate_left
                  · simp only [Act.put, sa_, sz_, ss_, i64_w, i32_w]; rfl
                  refine pu_ 10 (some 75) (bq_ 11 19) HT_ ?_
                  refine pu_ 11 (some 76) (bq_ 12 18) HT_ ?_
                  refine take_ (i := 12) (N := some 77) (v := ?_) (a' := ?_) (bq_ 13 17) rfl rfl (take_ofW HT_.out HW_.out (by kernel_rfl)) (fun _ _ _ h => h) (Or.inl ⟨by rfl, ?_⟩) hHeld ?_ ?_
                  rotate_left
                  · rintro w' ⟨s0, s1, s2, s3, s4, s5, s6, s7, s8, s9, s10⟩
                    go_simp
                    with_reducible rfl
                  rotate_left
                  · simp only [Act.put, sa_, sz_, ss_, i64_w, i32_w]; rfl
                  refine pu_ 13 (some 78) (bq_ 14 16) HT_ ?_
                  refine pu_ 14 (some 79) (bq_ 15 15) HT_ ?_
                  refine pu_ 15 (some 80) (bq_ 16 14) HT_ ?_
                  refine pu_ 17 (some 82) #[true, true, true, true, true, true, true, true, true, true, true, true, true, true, true, true, false, true, false, false, false, false, false, false, false, false, false, false, false, false] HT_ ?_
                  refine pu_ 21 (some 86) #[true, true, true, true, true, true, true, true, true, true, true, true, true, true, true, true, false, true, false, false, false, true, false, false, false, false, false, false, false, false] HT_ ?_
                  refine pu_ 22 (some 87) #[true, true, true, true, true, true, true, true, true, true, true, true, true, true, true, true, false, true, false, false, false, true, true, false, false, false, false, false, false, false] HT_ ?_
                  refine pu_ 24 (some 89) #[true, true, true, true, true, true, true, true, true, true, true, true, true, true, true, true, false, true, false, false, false, true, true, false, true, false, false, false, false, false] HT_ ?_
                  refine take_ (i := 16) (N := some 81) (v := ?_) (a' := ?_) #[true, true, true, true, true, true, true, true, true, true, true, true, true, true, true, true, true, true, false, false, false, true, true, false, true, false, false, false, false, false] rfl rfl (take_ofW HT_.out HW_.out (by kernel_rfl)) (fun _ _ _ h => h) (Or.inl ⟨by rfl, ?_⟩) hHeld ?_ ?_
                  rotate_left
                  · rintro w' ⟨s0, s1, s2, s3, s4, s5, s6, s7, s8, s9, s10⟩
                    go_simp
                    with_reducible rfl
                  rotate_left
                  · simp only [Act.put, sa_, sz_, ss_, i64_w, i32_w]; rfl
                  refine pu_ 18 (some 83) #[true, true, true, true, true, true, true, true, true, true, true, true, true, true, true, true, true, true, true, false, false, true, true, false, true, false, false, false, false, false] HT_ ?_
                  refine pu_ 19 (some 84) #[true, true, true, true, true, true, true, true, true, true, true, true, true, true, true, true, true, true, true, true, false, true, true, false, true, false, false, false, false, false] HT_ ?_
                  refine take_ (i := 20) (N := some 85) (v := ?_) (a' := ?_) #[true, true, true, true, true, true, true, true, true, true, true, true, true, true, true, true, true, true, true, true, true, true, true, false, true, false, false, false, false, false] rfl rfl (take_ofW HT_.out HW_.out (by kernel_rfl)) (fun _ _ _ h => h) (Or.inl ⟨by rfl, ?_⟩) hHeld ?_ ?_
                  rotate_left
                  · rintro w' ⟨s0, s1, s2, s3, s4, s5, s6, s7, s8, s9, s10⟩
                    go_simp
                    with_reducible rfl
                  rotate_left
                  · simp only [Act.put, sa_, sz_, ss_, i64_w, i32_w]; rfl
                  refine take_ (i := 23) (N := some 88) (v := ?_) (a' := ?_) (bq_ 25 5) rfl rfl (take_ofW HT_.out HW_.out (by kernel_rfl)) (fun _ _ _ h => h) (Or.inl ⟨by rfl, ?_⟩) hHeld ?_ ?_
                  rotate_left
                  · rintro w' ⟨s0, s1, s2, s3, s4, s5, s6, s7, s8, s9, s10⟩
                    go_simp
                    with_reducible rfl
                  rotate_left
                  · simp only [Act.put, sa_, sz_, ss_, i64_w, i32_w]; rfl
                  refine pu_ 25 (some 90) (bq_ 26 4) HT_ ?_
                  refine on_ 26 (some 91) (bq_ 27 3) HT_ (fun K hK => ?_)
                  refine goes_ Try.func33 (by kernel_rfl) rfl #[.slice (some ad808) t786.length co9, .int .i64 ji39] (by rfl) rfl rfl (by (try simp only [List.map_toArray, List.map_cons, List.map_nil]); first | done | (simp only [hji39]; rfl) | rfl | (simp only [List.length_drop, List.length_take]; rfl)) ?_
                  with_reducible refine (impl_PathOf.calls k2 _ _ t786 ji39 t810 _ ?side1 ?side2 A46.out).mono ?_
                  (case side1 => exact kc_ (Kd.R_reads' HO_3.out).2.2)
                  (case side2 => exact (Kd.R_reads' HO_3.out).2.1)
                  rintro e w52 ⟨v811, rfl, ho0, hb⟩
                  have HS3_ := (hb.cell (World.block_lt_of_cell? _ _ (hHeld.2.2.2.1))).trans (hHeld.2.2.2.1)
                  have HS4_ := (hb.cell (World.block_lt_of_cell? _ _ (hHeld.2.2.2.2.1))).trans (hHeld.2.2.2.2.1)
                  have HS5_ := (hb.cell (World.block_lt_of_cell? _ _ (hHeld.2.2.2.2.2.1))).trans (hHeld.2.2.2.2.2.1)
                  have HS6_ := (hb.cell (World.block_lt_of_cell? _ _ (hHeld.2.2.2.2.2.2.1))).trans (hHeld.2.2.2.2.2.2.1)
                  have HS7_ := (hb.cell (World.block_lt_of_cell? _ _ (hHeld.2.2.2.2.2.2.2.1))).trans (hHeld.2.2.2.2.2.2.2.1)
                  have HS8_ := (hb.cell (World.block_lt_of_cell? _ _ (hHeld.2.2.2.2.2.2.2.2.1))).trans (hHeld.2.2.2.2.2.2.2.2.1)
                  have HS9_ := (hb.cell (World.block_lt_of_cell? _ _ (hHeld.2.2.2.2.2.2.2.2.2.1))).trans (hHeld.2.2.2.2.2.2.2.2.2.1)
                  have HS10_ := (hb.cell (World.block_lt_of_cell? _ _ (hHeld.2.2.2.2.2.2.2.2.2.2))).trans (hHeld.2.2.2.2.2.2.2.2.2.2)
                  refine ⟨_, rfl, ?_⟩
                  have n0_ := Aside0.mk (Kd.R_below (kr_ HO_3.out) hb)
                  have n1_ := Aside0.mk (Kd.S_elder' (by (with_reducible repeat (first | apply Kd.S_alloc | apply Kd.S_drewN | apply Kd.S_drew)); exact HO_797002.out) (Kd.R_base ho0) hb)
                  have n2_ := Aside0.mk (Kd.S_elder' (by (with_reducible repeat (first | apply Kd.S_alloc | apply Kd.S_drewN | apply Kd.S_drew)); exact HO_803002.out) (Kd.R_base ho0) hb)
                  have n3_ := Aside0.mk (Kd.R_elder' (kr_ HL807_2.out) (Kd.R_base ho0) hb)
                  have n4_ := Aside0.mk (Kd.R_elder' (kr_ HL809_2.out) (Kd.R_base ho0) hb)
                  have n5_ := Aside0.mk (Kd.R_lower (Kd.R_new' (Kd.R_new' ho0 (Kd.R_lt (kr_ HL807_2.out))) (Kd.R_lt (kr_ HL809_2.out))) (below_size (by repeat (first | (with_reducible first | exact HB.out | apply below_alloc | apply pw_below_drewN | apply below_drew1 | refine below_set ?_ GE796.out | refine below_set ?_ GE802.out) | exact HB.out))))
                  have n6_ := Aside0.mk (blk_below (g := gb796) (o := .cells #[.int .i64 t791, .int .i64 t792, .slice (some ad807) t793.length co13] 44 (0, 0)) (bk_ BK796.out) hb)
                  have n7_ := Aside0.mk (blk_below (g := gb802) (o := .cells #[.int .i64 t797, .int .i64 t798, .slice Ao18 t799.length co18] 44 (0, 0)) (bk_ BK802.out) hb)
                  have n8_ := Aside0.mk (Kd.C_below (by repeat (first | (with_reducible exact HR807_2.out) | (with_reducible refine Kd.C_alloc ?_ _) | (with_reducible refine Kd.C_drewN ?_ _) | (with_reducible refine Kd.C_drew ?_) | exact HR807_2.out)) hb)
                  have n9_ := Aside0.mk (Kd.C_below (by repeat (first | (with_reducible exact HR809_2.out) | (with_reducible refine Kd.C_alloc ?_ _) | (with_reducible refine Kd.C_drewN ?_ _) | (with_reducible refine Kd.C_drew ?_) | exact HR809_2.out)) hb)
                  have n10_ := Aside0.mk (below_step (by repeat (first | (with_reducible first | exact HB.out | apply below_alloc | apply pw_below_drewN | apply below_drew1 | refine below_set ?_ GE796.out | refine below_set ?_ GE802.out) | exact HB.out)) hb)
                  clear HO_3
                  clear HO_797002
                  clear HO_803002
                  clear HL807_2
                  clear HL809_2
                  clear BK796
                  clear BK802
                  clear HR807_2
                  clear HR809_2
                  clear HB
                  have HO_3 := n0_
                  have HO_797002 := n1_
                  have HO_803002 := n2_
                  have HL807_2 := n3_
                  have HL809_2 := n4_
                  have HO812 := n5_
                  have BK796 := n6_
                  have BK802 := n7_
                  have HR807_2 := n8_
                  have HR809_2 := n9_
                  have HB := n10_
                  clear n0_ n1_ n2_ n3_ n4_ n5_ n6_ n7_ n8_ n9_ n10_
                  (try clear hb)
                  (try clear hb2)
                  (try clear hk)
                  (try clear hi)
                  (try clear ho0)
                  obtain ⟨Ao53, co53, eo53⟩ := Kd.R_slice HO812.out
                  (first | subst eo53 | (injection eo53 with f1_ f2_ f3_; have f4_ := f1_.symm; have f5_ := f3_.symm; clear f1_ f2_ f3_; subst f4_; subst f5_))
                  refine hK.out _ _ ⟨(blk_cell BK796.out 0).trans rfl, (blk_cell BK796.out 1).trans rfl, (blk_cell BK796.out 2).trans rfl, HS3_, HS4_, HS5_, HS6_, HS7_, HS8_, HS9_, HS10_⟩ (fun hHeld => ?_)
                  clear hK K
                  refine nm_ ?_
                  refine on_ 27 (some 92) (bq_ 28 2) HT_ (fun K hK => ?_)
                  refine goes_ Try.func38 (by kernel_rfl) rfl #[.slice A807_2 ((rd_T63 t793 x9_2).f1).length c807_2, .slice Ao53 t810.length co53] (by rfl) rfl rfl al_ ?_
                  with_reducible refine (laws_sameTexts.calls k2 _ _ ((rd_T63 t793 x9_2).f1) _ _ t810 true _ ?side1 ?side2 ?side3 ?side4 A47.out).mono ?_
                  (case side1 => repeat (first | exact (by repeat (first | (with_reducible exact HR809_2.out) | (with_reducible refine Kd.C_alloc ?_ _) | (with_reducible refine Kd.C_drewN ?_ _) | (with_reducible refine Kd.C_drew ?_) | exact HR809_2.out)) | (with_reducible refine Kd.C_alloc ?_ _) | (with_reducible refine Kd.C_drewN ?_ _) | (with_reducible refine Kd.C_drew ?_)))
                  (case side2 => exact HC809_2.out)
                  (case side3 => exact kc_ (Kd.R_reads' HO812.out).2.2)
                  (case side4 => exact (Kd.R_reads' HO812.out).2.1)
                  rintro e w' ⟨rfl, ⟨nd, rfl⟩⟩
                  refine ⟨_, rfl, ?_⟩
                  refine hK.out _ _ ⟨(blk_cell BK796.out 0).trans rfl, (blk_cell BK796.out 1).trans rfl, (blk_cell BK796.out 2).trans rfl, hHeld.2.2.2.1, hHeld.2.2.2.2.1, hHeld.2.2.2.2.2.1, hHeld.2.2.2.2.2.2.1, hHeld.2.2.2.2.2.2.2.1, hHeld.2.2.2.2.2.2.2.2.1, hHeld.2.2.2.2.2.2.2.2.2.1, hHeld.2.2.2.2.2.2.2.2.2.2⟩ (fun hHeld => ?_)
                  clear hK K
                  refine nm_ ?_
                  refine pu_ 28 (some 93) (bq_ 29 1) HT_ ?_
                  refine pu_ 29 (some 94) (bq_ 30 0) HT_ ?_
                  refine done_ (done_of HT_.out (by kernel_rfl)) ?_
                  try go_wp2
                  go_roundg k2
                  case measure => have := HJ6.out; have := HK2.out; omega
                  case rel => exact ⟨(wrap64 (x9_2 + 1)), (by first | rfl | (simp; done) | (simp [*]; done)), H', ⟨by have := HJ6.out; have := HK2.out; omega⟩, ⟨by (with_reducible repeat (first | apply Kd.R_alloc | apply Kd.R_drewN | apply Kd.R_drew)); exact HO_3.out⟩, ⟨by (with_reducible repeat (first | apply Kd.S_alloc | apply Kd.S_drewN | apply Kd.S_drew)); exact Kd.S_mono HO_797002.out (fun _ hk => hk.1)⟩, ⟨by (with_reducible repeat (first | apply Kd.S_alloc | apply Kd.S_drewN | apply Kd.S_drew)); exact Kd.S_mono HO_803002.out (fun _ hk => hk.1)⟩, ⟨by (with_reducible repeat (first | refine blk_drewN ?_ _ | refine blk_drew ?_ | refine blk_alloc ?_ _)); exact BK796.out⟩, ⟨by (with_reducible repeat (first | refine blk_drewN ?_ _ | refine blk_drew ?_ | refine blk_alloc ?_ _)); exact BK802.out⟩, ⟨by repeat (first | (with_reducible first | exact HB.out | apply below_alloc | apply pw_below_drewN | apply below_drew1 | refine below_set ?_ GE796.out | refine below_set ?_ GE802.out) | exact HB.out)⟩⟩
                · replace c48 := Bool.eq_false_iff.mpr c48
                  subst c48
                  have H1 : (some false) = some r := by rw [if_neg (show ¬ (false = true) by decide)] at H; exact H
                  clear H
                  have H := H1
                  clear H1
                  obtain rfl := Option.some.inj H
                  have hnb54 := NB796_802.out
                  have hnc54 := NB802_796.out
                  have hcz55_0 : wr.cell? ⟨gb796, 0, none⟩ = some (.int .i64 t791) := (blk_cell BK796.out 0).trans rfl
                  have hcz55_1 : wr.cell? ⟨gb796, 1, none⟩ = some (.int .i64 t792) := (blk_cell BK796.out 1).trans rfl
                  have hcz55_2 : wr.cell? ⟨gb796, 2, none⟩ = some (.slice Ao13 t793.length co13) := (blk_cell BK796.out 2).trans rfl
                  have hfz55_0 := blk_frozen BK796.out 0
                  have hfz55_1 := blk_frozen BK796.out 1
                  have hfz55_2 := blk_frozen BK796.out 2
                  try go_wp2
                  have n0_ := Aside0.mk (Kd.R_drew HO_3.out)
                  have n1_ := Aside0.mk (Kd.S_drew HO_797002.out)
                  have n2_ := Aside0.mk (Kd.S_drew HO_803002.out)
                  have n3_ := Aside0.mk (blk_drew BK796.out)
                  have n4_ := Aside0.mk (blk_drew BK802.out)
                  have n5_ := Aside0.mk (below_drew1 HB.out)
                  clear HO_3
                  clear HO_797002
                  clear HO_803002
                  clear BK796
                  clear BK802
                  clear HB
                  have HO_3 := n0_
                  have HO_797002 := n1_
                  have HO_803002 := n2_
                  have BK796 := n3_
                  have BK802 := n4_
                  have HB := n5_
                  clear n0_ n1_ n2_ n3_ n4_ n5_
                  have p807 : 0 ≤ (x9_2 : Int) := of_decide_eq_true (by first | (with_reducible assumption) | assumption)
                  have q807 : x9_2 < (t793.length : Int) := of_decide_eq_true (by first | (with_reducible assumption) | assumption)
                  obtain ⟨ad807, A807_2, c807_2, e807, hx807_0, hx807_1, hx807_2, hl807_2, hi807_2⟩ := at_T63 (Kd.S_reads' HO_797002.out).2.2 x9_2 p807 q807
                  cases e807
                  obtain ⟨ce807, hce807, hMe807, hcc807⟩ := Kd.S_get HO_797002.out z63 x9_2 p807 (by first | exact q807 | exact of_decide_eq_true (by first | (with_reducible assumption) | assumption) | (have e_ := (Kd.S_reads' HO_797002.out).1; omega))
                  obtain ⟨ve807_2, rfl, ge807_2⟩ := k63_openM hMe807
                  have hv807_2 := hcc807 2 _ rfl
                  rw [add_field _ _ 2 (by omega)] at hv807_2
                  replace hv807_2 := Option.some.inj (hv807_2.symm.trans hx807_2)
                  rw [hv807_2] at ge807_2
                  have HL807_2 := Aside0.mk (show Kd.R Kd.string 9 _ _ _ _ ((rd_T63 t793 x9_2).f1) from ge807_2)
                  clear hv807_2 ge807_2
                  clear hcc807 hce807
                  have HR807_2 := Aside0.mk hi807_2
                  have HC807_2 := Aside0.mk hl807_2
                  clear hi807_2 hl807_2
                  replace p807 := eq_true p807
                  replace q807 := eq_true q807
                  have p808 : 0 ≤ ((ji39) : Int) := of_decide_eq_true (by first | (with_reducible assumption) | assumption)
                  have q808 : (ji39) < (t786.length : Int) := of_decide_eq_true (by first | (with_reducible assumption) | assumption)
                  obtain ⟨ad808, e808, hx808_0, hx808_1⟩ := at_T26 (Kd.R_reads' HO_3.out).2.2 (ji39) p808 q808
                  cases e808
                  replace p808 := eq_true p808
                  replace q808 := eq_true q808
                  have p809 : 0 ≤ (x9_2 : Int) := of_decide_eq_true (by first | (with_reducible assumption) | assumption)
                  have q809 : x9_2 < (t793.length : Int) := of_decide_eq_true (by first | (with_reducible assumption) | assumption)
                  obtain ⟨ad809, A809_2, c809_2, e809, hx809_0, hx809_1, hx809_2, hl809_2, hi809_2⟩ := at_T63 (Kd.S_reads' HO_797002.out).2.2 x9_2 p809 q809
                  obtain rfl : ad807 = ad809 := (by injection e809)
                  obtain ⟨ce809, hce809, hMe809, hcc809⟩ := Kd.S_get HO_797002.out z63 x9_2 p809 (by first | exact q809 | exact of_decide_eq_true (by first | (with_reducible assumption) | assumption) | (have e_ := (Kd.S_reads' HO_797002.out).1; omega))
                  obtain ⟨ve809_2, rfl, ge809_2⟩ := k63_openM hMe809
                  have hv809_2 := hcc809 2 _ rfl
                  rw [add_field _ _ 2 (by omega)] at hv809_2
                  replace hv809_2 := Option.some.inj (hv809_2.symm.trans hx809_2)
                  rw [hv809_2] at ge809_2
                  have HL809_2 := Aside0.mk (show Kd.R Kd.string 9 _ _ _ _ ((rd_T63 t793 x9_2).f1) from ge809_2)
                  clear hv809_2 ge809_2
                  clear hcc809 hce809
                  have HR809_2 := Aside0.mk hi809_2
                  have HC809_2 := Aside0.mk hl809_2
                  clear hi809_2 hl809_2
                  replace p809 := eq_true p809
                  replace q809 := eq_true q809
                  have ea_ := Option.some.inj (hx807_2.symm.trans hx809_2)
                  injection ea_ with ea_ en_ ec_
                  subst ea_
                  subst ec_
                  clear en_
                  refine start_ (n := 30) (S := fun w' => w'.cell? ⟨gb796, 0, none⟩ = some (.int .i64 t791) ∧ w'.cell? ⟨gb796, 1, none⟩ = some (.int .i64 t792) ∧ w'.cell? ⟨gb796, 2, none⟩ = some (.slice (some ad807) t793.length co13) ∧ w'.cell? (ad807.add ((x9_2).toNat * 3)) = some (.string ((rd_T63 t793 x9_2).f0.f0)) ∧ w'.cell? ⟨(ad807.add ((x9_2).toNat * 3)).block, (ad807.add ((x9_2).toNat * 3)).off + 1, none⟩ = some (.string ((rd_T63 t793 x9_2).f0.f1)) ∧ w'.cell? ⟨(ad807.add ((x9_2).toNat * 3)).block, (ad807.add ((x9_2).toNat * 3)).off + 2, none⟩ = some (.slice A807_2 ((rd_T63 t793 x9_2).f1).length c807_2) ∧ w'.cell? (ad808.add (((ji39)).toNat * 2)) = some (.string ((rd_T26 t786 (ji39)).f0)) ∧ w'.cell? ⟨(ad808.add (((ji39)).toNat * 2)).block, (ad808.add (((ji39)).toNat * 2)).off + 1, none⟩ = some (.string ((rd_T26 t786 (ji39)).f1)) ∧ w'.cell? (ad807.add ((x9_2).toNat * 3)) = some (.string ((rd_T63 t793 x9_2).f0.f0)) ∧ w'.cell? ⟨(ad807.add ((x9_2).toNat * 3)).block, (ad807.add ((x9_2).toNat * 3)).off + 1, none⟩ = some (.string ((rd_T63 t793 x9_2).f0.f1)) ∧ w'.cell? ⟨(ad807.add ((x9_2).toNat * 3)).block, (ad807.add ((x9_2).toNat * 3)).off + 2, none⟩ = some (.slice A807_2 ((rd_T63 t793 x9_2).f1).length c807_2)) (ds := []) (bq_ 0 30) (by kernel_rfl) rfl rfl ⟨(blk_cell BK796.out 0).trans rfl, (blk_cell BK796.out 1).trans rfl, (blk_cell BK796.out 2).trans rfl, hx807_0, hx807_1, hx807_2, hx808_0, hx808_1, hx809_0, hx809_1, hx809_2⟩ (fun hHeld => ?_); refine with_tabW laws_FnProofs.tab14 laws_FnProofs.bits14 (fun HT_ HW_ => ?_)
                  generalize wr.drew = w56 at HO_3 HO_797002 HO_803002 BK796 BK802 HB HL807_2 HL809_2 HR807_2 HR809_2 hx807_0 hx807_1 hx807_2 hx808_0 hx808_1 hx809_0 hx809_1 hx809_2 hHeld ⊢
                  refine pu_ 0 (some 65) (bq_ 1 29) HT_ ?_
                  refine pu_ 2 (some 67) #[true, false, true, false, false, false, false, false, false, false, false, false, false, false, false, false, false, false, false, false, false, false, false, false, false, false, false, false, false, false] HT_ ?_
                  refine pu_ 6 (some 71) #[true, false, true, false, false, false, true, false, false, false, false, false, false, false, false, false, false, false, false, false, false, false, false, false, false, false, false, false, false, false] HT_ ?_
                  refine pu_ 7 (some 72) #[true, false, true, false, false, false, true, true, false, false, false, false, false, false, false, false, false, false, false, false, false, false, false, false, false, false, false, false, false, false] HT_ ?_
                  refine pu_ 9 (some 74) #[true, false, true, false, false, false, true, true, false, true, false, false, false, false, false, false, false, false, false, false, false, false, false, false, false, false, false, false, false, false] HT_ ?_
                  refine take_ (i := 1) (N := some 66) (v := ?_) (a' := ?_) #[true, true, true, false, false, false, true, true, false, true, false, false, false, false, false, false, false, false, false, false, false, false, false, false, false, false, false, false, false, false] rfl rfl (take_ofW HT_.out HW_.out (by kernel_rfl)) (fun _ _ _ h => h) (Or.inl ⟨by rfl, ?_⟩) hHeld ?_ ?_
                  rotate_left
                  · rintro w' ⟨s0, s1, s2, s3, s4, s5, s6, s7, s8, s9, s10⟩
                    go_simp
                    with_reducible rfl
                  rotate_left
                  · simp only [Act.put, sa_, sz_, ss_, i64_w, i32_w]; rfl
                  refine pu_ 3 (some 68) #[true, true, true, true, false, false, true, true, false, true, false, false, false, false, false, false, false, false, false, false, false, false, false, false, false, false, false, false, false, false] HT_ ?_
                  refine pu_ 4 (some 69) #[true, true, true, true, true, false, true, true, false, true, false, false, false, false, false, false, false, false, false, false, false, false, false, false, false, false, false, false, false, false] HT_ ?_
                  refine take_ (i := 5) (N := some 70) (v := ?_) (a' := ?_) #[true, true, true, true, true, true, true, true, false, true, false, false, false, false, false, false, false, false, false, false, false, false, false, false, false, false, false, false, false, false] rfl rfl (take_ofW HT_.out HW_.out (by kernel_rfl)) (fun _ _ _ h => h) (Or.inl ⟨by rfl, ?_⟩) hHeld ?_ ?_
                  rotate_left
                  · rintro w' ⟨s0, s1, s2, s3, s4, s5, s6, s7, s8, s9, s10⟩
                    go_simp
                    with_reducible rfl
                  rotate_left
                  · simp only [Act.put, sa_, sz_, ss_, i64_w, i32_w]; rfl
                  refine take_ (i := 8) (N := some 73) (v := ?_) (a' := ?_) (bq_ 10 20) rfl rfl (take_ofW HT_.out HW_.out (by kernel_rfl)) (fun _ _ _ h => h) (Or.inl ⟨by rfl, ?_⟩) hHeld ?_ ?_
                  rotate_left
                  · rintro w' ⟨s0, s1, s2, s3, s4, s5, s6, s7, s8, s9, s10⟩
                    go_simp
                    with_reducible rfl
                  rotate_left
                  · simp only [Act.put, sa_, sz_, ss_, i64_w, i32_w]; rfl
                  refine pu_ 10 (some 75) (bq_ 11 19) HT_ ?_
                  refine pu_ 11 (some 76) (bq_ 12 18) HT_ ?_
                  refine take_ (i := 12) (N := some 77) (v := ?_) (a' := ?_) (bq_ 13 17) rfl rfl (take_ofW HT_.out HW_.out (by kernel_rfl)) (fun _ _ _ h => h) (Or.inl ⟨by rfl, ?_⟩) hHeld ?_ ?_
                  rotate_left
                  · rintro w' ⟨s0, s1, s2, s3, s4, s5, s6, s7, s8, s9, s10⟩
                    go_simp
                    with_reducible rfl
                  rotate_left
                  · simp only [Act.put, sa_, sz_, ss_, i64_w, i32_w]; rfl
                  refine pu_ 13 (some 78) (bq_ 14 16) HT_ ?_
                  refine pu_ 14 (some 79) (bq_ 15 15) HT_ ?_
                  refine pu_ 15 (some 80) (bq_ 16 14) HT_ ?_
                  refine pu_ 17 (some 82) #[true, true, true, true, true, true, true, true, true, true, true, true, true, true, true, true, false, true, false, false, false, false, false, false, false, false, false, false, false, false] HT_ ?_
                  refine pu_ 21 (some 86) #[true, true, true, true, true, true, true, true, true, true, true, true, true, true, true, true, false, true, false, false, false, true, false, false, false, false, false, false, false, false] HT_ ?_
                  refine pu_ 22 (some 87) #[true, true, true, true, true, true, true, true, true, true, true, true, true, true, true, true, false, true, false, false, false, true, true, false, false, false, false, false, false, false] HT_ ?_
                  refine pu_ 24 (some 89) #[true, true, true, true, true, true, true, true, true, true, true, true, true, true, true, true, false, true, false, false, false, true, true, false, true, false, false, false, false, false] HT_ ?_
                  refine take_ (i := 16) (N := some 81) (v := ?_) (a' := ?_) #[true, true, true, true, true, true, true, true, true, true, true, true, true, true, true, true, true, true, false, false, false, true, true, false, true, false, false, false, false, false] rfl rfl (take_ofW HT_.out HW_.out (by kernel_rfl)) (fun _ _ _ h => h) (Or.inl ⟨by rfl, ?_⟩) hHeld ?_ ?_
                  rotate_left
                  · rintro w' ⟨s0, s1, s2, s3, s4, s5, s6, s7, s8, s9, s10⟩
                    go_simp
                    with_reducible rfl
                  rotate_left
                  · simp only [Act.put, sa_, sz_, ss_, i64_w, i32_w]; rfl
                  refine pu_ 18 (some 83) #[true, true, true, true, true, true, true, true, true, true, true, true, true, true, true, true, true, true, true, false, false, true, true, false, true, false, false, false, false, false] HT_ ?_
                  refine pu_ 19 (some 84) #[true, true, true, true, true, true, true, true, true, true, true, true, true, true, true, true, true, true, true, true, false, true, true, false, true, false, false, false, false, false] HT_ ?_
                  refine take_ (i := 20) (N := some 85) (v := ?_) (a' := ?_) #[true, true, true, true, true, true, true, true, true, true, true, true, true, true, true, true, true, true, true, true, true, true, true, false, true, false, false, false, false, false] rfl rfl (take_ofW HT_.out HW_.out (by kernel_rfl)) (fun _ _ _ h => h) (Or.inl ⟨by rfl, ?_⟩) hHeld ?_ ?_
                  rotate_left
                  · rintro w' ⟨s0, s1, s2, s3, s4, s5, s6, s7, s8, s9, s10⟩
                    go_simp
                    with_reducible rfl
                  rotate_left
                  · simp only [Act.put, sa_, sz_, ss_, i64_w, i32_w]; rfl
                  refine take_ (i := 23) (N := some 88) (v := ?_) (a' := ?_) (bq_ 25 5) rfl rfl (take_ofW HT_.out HW_.out (by kernel_rfl)) (fun _ _ _ h => h) (Or.inl ⟨by rfl, ?_⟩) hHeld ?_ ?_
                  rotate_left
                  · rintro w' ⟨s0, s1, s2, s3, s4, s5, s6, s7, s8, s9, s10⟩
                    go_simp
                    with_reducible rfl
                  rotate_left
                  · simp only [Act.put, sa_, sz_, ss_, i64_w, i32_w]; rfl
                  refine pu_ 25 (some 90) (bq_ 26 4) HT_ ?_
                  refine on_ 26 (some 91) (bq_ 27 3) HT_ (fun K hK => ?_)
                  refine goes_ Try.func33 (by kernel_rfl) rfl #[.slice (some ad808) t786.length co9, .int .i64 ji39] (by rfl) rfl rfl (by (try simp only [List.map_toArray, List.map_cons, List.map_nil]); first | done | (simp only [hji39]; rfl) | rfl | (simp only [List.length_drop, List.length_take]; rfl)) ?_
                  with_reducible refine (impl_PathOf.calls k2 _ _ t786 ji39 t810 _ ?side1 ?side2 A46.out).mono ?_
                  (case side1 => exact kc_ (Kd.R_reads' HO_3.out).2.2)
                  (case side2 => exact (Kd.R_reads' HO_3.out).2.1)
                  rintro e w57 ⟨v811, rfl, ho0, hb⟩
                  have HS3_ := (hb.cell (World.block_lt_of_cell? _ _ (hHeld.2.2.2.1))).trans (hHeld.2.2.2.1)
                  have HS4_ := (hb.cell (World.block_lt_of_cell? _ _ (hHeld.2.2.2.2.1))).trans (hHeld.2.2.2.2.1)
                  have HS5_ := (hb.cell (World.block_lt_of_cell? _ _ (hHeld.2.2.2.2.2.1))).trans (hHeld.2.2.2.2.2.1)
                  have HS6_ := (hb.cell (World.block_lt_of_cell? _ _ (hHeld.2.2.2.2.2.2.1))).trans (hHeld.2.2.2.2.2.2.1)
                  have HS7_ := (hb.cell (World.block_lt_of_cell? _ _ (hHeld.2.2.2.2.2.2.2.1))).trans (hHeld.2.2.2.2.2.2.2.1)
                  have HS8_ := (hb.cell (World.block_lt_of_cell? _ _ (hHeld.2.2.2.2.2.2.2.2.1))).trans (hHeld.2.2.2.2.2.2.2.2.1)
                  have HS9_ := (hb.cell (World.block_lt_of_cell? _ _ (hHeld.2.2.2.2.2.2.2.2.2.1))).trans (hHeld.2.2.2.2.2.2.2.2.2.1)
                  have HS10_ := (hb.cell (World.block_lt_of_cell? _ _ (hHeld.2.2.2.2.2.2.2.2.2.2))).trans (hHeld.2.2.2.2.2.2.2.2.2.2)
                  refine ⟨_, rfl, ?_⟩
                  have n0_ := Aside0.mk (Kd.R_below (kr_ HO_3.out) hb)
                  have n1_ := Aside0.mk (Kd.S_elder' (by (with_reducible repeat (first | apply Kd.S_alloc | apply Kd.S_drewN | apply Kd.S_drew)); exact HO_797002.out) (Kd.R_base ho0) hb)
                  have n2_ := Aside0.mk (Kd.S_elder' (by (with_reducible repeat (first | apply Kd.S_alloc | apply Kd.S_drewN | apply Kd.S_drew)); exact HO_803002.out) (Kd.R_base ho0) hb)
                  have n3_ := Aside0.mk (Kd.R_elder' (kr_ HL807_2.out) (Kd.R_base ho0) hb)
                  have n4_ := Aside0.mk (Kd.R_elder' (kr_ HL809_2.out) (Kd.R_base ho0) hb)
                  have n5_ := Aside0.mk (Kd.R_lower (Kd.R_new' (Kd.R_new' ho0 (Kd.R_lt (kr_ HL807_2.out))) (Kd.R_lt (kr_ HL809_2.out))) (below_size (by repeat (first | (with_reducible first | exact HB.out | apply below_alloc | apply pw_below_drewN | apply below_drew1 | refine below_set ?_ GE796.out | refine below_set ?_ GE802.out) | exact HB.out))))
                  have n6_ := Aside0.mk (blk_below (g := gb796) (o := .cells #[.int .i64 t791, .int .i64 t792, .slice (some ad807) t793.length co13] 44 (0, 0)) (bk_ BK796.out) hb)
                  have n7_ := Aside0.mk (blk_below (g := gb802) (o := .cells #[.int .i64 t797, .int .i64 t798, .slice Ao18 t799.length co18] 44 (0, 0)) (bk_ BK802.out) hb)
                  have n8_ := Aside0.mk (Kd.C_below (by repeat (first | (with_reducible exact HR807_2.out) | (with_reducible refine Kd.C_alloc ?_ _) | (with_reducible refine Kd.C_drewN ?_ _) | (with_reducible refine Kd.C_drew ?_) | exact HR807_2.out)) hb)
                  have n9_ := Aside0.mk (Kd.C_below (by repeat (first | (with_reducible exact HR809_2.out) | (with_reducible refine Kd.C_alloc ?_ _) | (with_reducible refine Kd.C_drewN ?_ _) | (with_reducible refine Kd.C_drew ?_) | exact HR809_2.out)) hb)
                  have n10_ := Aside0.mk (below_step (by repeat (first | (with_reducible first | exact HB.out | apply below_alloc | apply pw_below_drewN | apply below_drew1 | refine below_set ?_ GE796.out | refine below_set ?_ GE802.out) | exact HB.out)) hb)
                  clear HO_3
                  clear HO_797002
                  clear HO_803002
                  clear HL807_2
                  clear HL809_2
                  clear BK796
                  clear BK802
                  clear HR807_2
                  clear HR809_2
                  clear HB
                  have HO_3 := n0_
                  have HO_797002 := n1_
                  have HO_803002 := n2_
                  have HL807_2 := n3_
                  have HL809_2 := n4_
                  have HO812 := n5_
                  have BK796 := n6_
                  have BK802 := n7_
                  have HR807_2 := n8_
                  have HR809_2 := n9_
                  have HB := n10_
                  clear n0_ n1_ n2_ n3_ n4_ n5_ n6_ n7_ n8_ n9_ n10_
                  (try clear hb)
                  (try clear hb2)
                  (try clear hk)
                  (try clear hi)
                  (try clear ho0)
                  obtain ⟨Ao58, co58, eo58⟩ := Kd.R_slice HO812.out
                  (first | subst eo58 | (injection eo58 with f1_ f2_ f3_; have f4_ := f1_.symm; have f5_ := f3_.symm; clear f1_ f2_ f3_; subst f4_; subst f5_))
                  refine hK.out _ _ ⟨(blk_cell BK796.out 0).trans rfl, (blk_cell BK796.out 1).trans rfl, (blk_cell BK796.out 2).trans rfl, HS3_, HS4_, HS5_, HS6_, HS7_, HS8_, HS9_, HS10_⟩ (fun hHeld => ?_)
                  clear hK K
                  refine nm_ ?_
                  refine on_ 27 (some 92) (bq_ 28 2) HT_ (fun K hK => ?_)
                  refine goes_ Try.func38 (by kernel_rfl) rfl #[.slice A807_2 ((rd_T63 t793 x9_2).f1).length c807_2, .slice Ao58 t810.length co58] (by rfl) rfl rfl al_ ?_
                  with_reducible refine (laws_sameTexts.calls k2 _ _ ((rd_T63 t793 x9_2).f1) _ _ t810 false _ ?side1 ?side2 ?side3 ?side4 A47.out).mono ?_
                  (case side1 => repeat (first | exact (by repeat (first | (with_reducible exact HR809_2.out) | (with_reducible refine Kd.C_alloc ?_ _) | (with_reducible refine Kd.C_drewN ?_ _) | (with_reducible refine Kd.C_drew ?_) | exact HR809_2.out)) | (with_reducible refine Kd.C_alloc ?_ _) | (with_reducible refine Kd.C_drewN ?_ _) | (with_reducible refine Kd.C_drew ?_)))
                  (case side2 => exact HC809_2.out)
                  (case side3 => exact kc_ (Kd.R_reads' HO812.out).2.2)
                  (case side4 => exact (Kd.R_reads' HO812.out).2.1)
                  rintro e w' ⟨rfl, ⟨nd, rfl⟩⟩
                  refine ⟨_, rfl, ?_⟩
                  refine hK.out _ _ ⟨(blk_cell BK796.out 0).trans rfl, (blk_cell BK796.out 1).trans rfl, (blk_cell BK796.out 2).trans rfl, hHeld.2.2.2.1, hHeld.2.2.2.2.1, hHeld.2.2.2.2.2.1, hHeld.2.2.2.2.2.2.1, hHeld.2.2.2.2.2.2.2.1, hHeld.2.2.2.2.2.2.2.2.1, hHeld.2.2.2.2.2.2.2.2.2.1, hHeld.2.2.2.2.2.2.2.2.2.2⟩ (fun hHeld => ?_)
                  clear hK K
                  refine nm_ ?_
                  refine pu_ 28 (some 93) (bq_ 29 1) HT_ ?_
                  refine pu_ 29 (some 94) (bq_ 30 0) HT_ ?_
                  refine done_ (done_of HT_.out (by kernel_rfl)) ?_
                  try go_wp2
                  go_ret
                  exact ⟨by first | rfl | (simp [errW_none, errW_some] <;> rfl) | (simp only [← hji39]; first | rfl | (simp [errW_none, errW_some] <;> rfl)) | (simp [*, errW_none, errW_some] <;> rfl), by repeat (first | (with_reducible first | exact HB.out | apply below_alloc | apply pw_below_drewN | apply below_drew1 | refine below_set ?_ GE796.out | refine below_set ?_ GE802.out) | exact HB.out)⟩
            · rw [if_neg c37] at H
              have c37b0 : decide (x9_2 < (t793.length : Int)) = false := decide_eq_false c37
              clear c37
              by_cases c59 : t791 = (t786.length : Int)
              · rw [if_pos c59] at H
                have c59b0 : (t791 == (t786.length : Int)) = true := beq_iff_eq.mpr c59
                have c59b1 : (t791 != (t786.length : Int)) = false := bne_eq_false_iff_eq.mpr c59
                clear c59
                by_cases c60 : t788.toList = ([] : List UInt8)
                · rw [if_pos c60] at H
                  have c60b0 : (t788.toList == ([] : List UInt8)) = true := beq_iff_eq.mpr c60
                  have c60b1 : (t788.toList != ([] : List UInt8)) = false := bne_eq_false_iff_eq.mpr c60
                  clear c60
                  by_cases c61 : (t793.length : Int) ≥ (t803.length : Int)
                  · rw [if_pos c61] at H
                    have c61b0 : decide ((t803.length : Int) ≤ (t793.length : Int)) = true := decide_eq_true c61
                    have c61b1 : decide (t803.length ≤ t793.length) = true := decide_eq_true (Int.ofNat_le.mp c61)
                    clear c61
                    obtain rfl := Option.some.inj H
                    have hnb62 := NB796_802.out
                    have hnc62 := NB802_796.out
                    have hcz63_0 : wr.cell? ⟨gb796, 0, none⟩ = some (.int .i64 t791) := (blk_cell BK796.out 0).trans rfl
                    have hcz63_1 : wr.cell? ⟨gb796, 1, none⟩ = some (.int .i64 t792) := (blk_cell BK796.out 1).trans rfl
                    have hcz63_2 : wr.cell? ⟨gb796, 2, none⟩ = some (.slice Ao13 t793.length co13) := (blk_cell BK796.out 2).trans rfl
                    have hfz63_0 := blk_frozen BK796.out 0
                    have hfz63_1 := blk_frozen BK796.out 1
                    have hfz63_2 := blk_frozen BK796.out 2
                    go_wp2
                    go_ret
                    exact ⟨by first | rfl | (simp [errW_none, errW_some] <;> rfl) | (simp [*, errW_none, errW_some] <;> rfl), by repeat (first | (with_reducible first | exact HB.out | apply below_alloc | apply pw_below_drewN | apply below_drew1 | refine below_set ?_ GE796.out | refine below_set ?_ GE802.out) | exact HB.out)⟩
                  · rw [if_neg c61] at H
                    have c61b0 : decide ((t803.length : Int) ≤ (t793.length : Int)) = false := decide_eq_false c61
                    have c61b1 : decide (t803.length ≤ t793.length) = false := decide_eq_false (fun h => c61 (Int.ofNat_le.mpr h))
                    clear c61
                    obtain rfl := Option.some.inj H
                    have hnb64 := NB796_802.out
                    have hnc64 := NB802_796.out
                    have hcz65_0 : wr.cell? ⟨gb796, 0, none⟩ = some (.int .i64 t791) := (blk_cell BK796.out 0).trans rfl
                    have hcz65_1 : wr.cell? ⟨gb796, 1, none⟩ = some (.int .i64 t792) := (blk_cell BK796.out 1).trans rfl
                    have hcz65_2 : wr.cell? ⟨gb796, 2, none⟩ = some (.slice Ao13 t793.length co13) := (blk_cell BK796.out 2).trans rfl
                    have hfz65_0 := blk_frozen BK796.out 0
                    have hfz65_1 := blk_frozen BK796.out 1
                    have hfz65_2 := blk_frozen BK796.out 2
                    go_wp2
                    go_ret
                    exact ⟨by first | rfl | (simp [errW_none, errW_some] <;> rfl) | (simp [*, errW_none, errW_some] <;> rfl), by repeat (first | (with_reducible first | exact HB.out | apply below_alloc | apply pw_below_drewN | apply below_drew1 | refine below_set ?_ GE796.out | refine below_set ?_ GE802.out) | exact HB.out)⟩
                · rw [if_neg c60] at H
                  have c60b0 : (t788.toList == ([] : List UInt8)) = false := beq_eq_false_iff_ne.mpr c60
                  have c60b1 : (t788.toList != ([] : List UInt8)) = true := bne_iff_ne.mpr c60
                  by_cases c66 : (Op.bytesLess t788.toList t787.toList) = true
                  · rw [if_pos c66] at H
                    have c66b0 : (Op.bytesLess t788.toList t787.toList) = true := c66
                    clear c66
                    obtain rfl := Option.some.inj H
                    have hnb67 := NB796_802.out
                    have hnc67 := NB802_796.out
                    have hcz68_0 : wr.cell? ⟨gb796, 0, none⟩ = some (.int .i64 t791) := (blk_cell BK796.out 0).trans rfl
                    have hcz68_1 : wr.cell? ⟨gb796, 1, none⟩ = some (.int .i64 t792) := (blk_cell BK796.out 1).trans rfl
                    have hcz68_2 : wr.cell? ⟨gb796, 2, none⟩ = some (.slice Ao13 t793.length co13) := (blk_cell BK796.out 2).trans rfl
                    have hfz68_0 := blk_frozen BK796.out 0
                    have hfz68_1 := blk_frozen BK796.out 1
                    have hfz68_2 := blk_frozen BK796.out 2
                    go_wp2
                    go_ret
                    exact ⟨by first | rfl | (simp [errW_none, errW_some] <;> rfl) | (simp [*, errW_none, errW_some] <;> rfl), by repeat (first | (with_reducible first | exact HB.out | apply below_alloc | apply pw_below_drewN | apply below_drew1 | refine below_set ?_ GE796.out | refine below_set ?_ GE802.out) | exact HB.out)⟩
                  · rw [if_neg c66] at H
                    have c66b0 : (Op.bytesLess t788.toList t787.toList) = false := by simpa using c66
                    clear c66
                    by_cases c69 : (t793.length : Int) ≥ (t803.length : Int)
                    · rw [if_pos c69] at H
                      have c69b0 : decide ((t803.length : Int) ≤ (t793.length : Int)) = true := decide_eq_true c69
                      have c69b1 : decide (t803.length ≤ t793.length) = true := decide_eq_true (Int.ofNat_le.mp c69)
                      clear c69
                      obtain rfl := Option.some.inj H
                      have hnb70 := NB796_802.out
                      have hnc70 := NB802_796.out
                      have hcz71_0 : wr.cell? ⟨gb796, 0, none⟩ = some (.int .i64 t791) := (blk_cell BK796.out 0).trans rfl
                      have hcz71_1 : wr.cell? ⟨gb796, 1, none⟩ = some (.int .i64 t792) := (blk_cell BK796.out 1).trans rfl
                      have hcz71_2 : wr.cell? ⟨gb796, 2, none⟩ = some (.slice Ao13 t793.length co13) := (blk_cell BK796.out 2).trans rfl
                      have hfz71_0 := blk_frozen BK796.out 0
                      have hfz71_1 := blk_frozen BK796.out 1
                      have hfz71_2 := blk_frozen BK796.out 2
                      go_wp2
                      go_ret
                      exact ⟨by first | rfl | (simp [errW_none, errW_some] <;> rfl) | (simp [*, errW_none, errW_some] <;> rfl), by repeat (first | (with_reducible first | exact HB.out | apply below_alloc | apply pw_below_drewN | apply below_drew1 | refine below_set ?_ GE796.out | refine below_set ?_ GE802.out) | exact HB.out)⟩
                    · rw [if_neg c69] at H
                      have c69b0 : decide ((t803.length : Int) ≤ (t793.length : Int)) = false := decide_eq_false c69
                      have c69b1 : decide (t803.length ≤ t793.length) = false := decide_eq_false (fun h => c69 (Int.ofNat_le.mpr h))
                      clear c69
                      obtain rfl := Option.some.inj H
                      have hnb72 := NB796_802.out
                      have hnc72 := NB802_796.out
                      have hcz73_0 : wr.cell? ⟨gb796, 0, none⟩ = some (.int .i64 t791) := (blk_cell BK796.out 0).trans rfl
                      have hcz73_1 : wr.cell? ⟨gb796, 1, none⟩ = some (.int .i64 t792) := (blk_cell BK796.out 1).trans rfl
                      have hcz73_2 : wr.cell? ⟨gb796, 2, none⟩ = some (.slice Ao13 t793.length co13) := (blk_cell BK796.out 2).trans rfl
                      have hfz73_0 := blk_frozen BK796.out 0
                      have hfz73_1 := blk_frozen BK796.out 1
                      have hfz73_2 := blk_frozen BK796.out 2
                      go_wp2
                      go_ret
                      exact ⟨by first | rfl | (simp [errW_none, errW_some] <;> rfl) | (simp [*, errW_none, errW_some] <;> rfl), by repeat (first | (with_reducible first | exact HB.out | apply below_alloc | apply pw_below_drewN | apply below_drew1 | refine below_set ?_ GE796.out | refine below_set ?_ GE802.out) | exact HB.out)⟩
              · rw [if_neg c59] at H
                have c59b0 : (t791 == (t786.length : Int)) = false := beq_eq_false_iff_ne.mpr c59
                have c59b1 : (t791 != (t786.length : Int)) = true := bne_iff_ne.mpr c59
                obtain rfl := Option.some.inj H
                have hnb74 := NB796_802.out
                have hnc74 := NB802_796.out
                have hcz75_0 : wr.cell? ⟨gb796, 0, none⟩ = some (.int .i64 t791) := (blk_cell BK796.out 0).trans rfl
                have hcz75_1 : wr.cell? ⟨gb796, 1, none⟩ = some (.int .i64 t792) := (blk_cell BK796.out 1).trans rfl
                have hcz75_2 : wr.cell? ⟨gb796, 2, none⟩ = some (.slice Ao13 t793.length co13) := (blk_cell BK796.out 2).trans rfl
                have hfz75_0 := blk_frozen BK796.out 0
                have hfz75_1 := blk_frozen BK796.out 1
                have hfz75_2 := blk_frozen BK796.out 2
                go_wp2
                go_ret
                exact ⟨by first | rfl | (simp [errW_none, errW_some] <;> rfl) | (simp [*, errW_none, errW_some] <;> rfl), by repeat (first | (with_reducible first | exact HB.out | apply below_alloc | apply pw_below_drewN | apply below_drew1 | refine below_set ?_ GE796.out | refine below_set ?_ GE802.out) | exact HB.out)⟩
        · replace c33 := Bool.eq_false_iff.mpr c33
          subst c33
          have H1 : (some (t791 == 0)) = some r := by rw [if_neg (show ¬ (false = true) by decide)] at H; exact H
          clear H
          have H := H1
          clear H1
          obtain rfl := Option.some.inj H
          go_wp2_with (first | ((with_reducible refine gate_callee (f := 27) rfl ?_); refine goesL_ (some 50) rfl rfl Try.func27 (by kernel_rfl) rfl #[.slice Ao9 t786.length co9, .string t787, .string t788] rfl al_ ?_; (with_reducible refine (impl_Between.calls kj6 _ _ t786 t787 t788 t803 _ ?side1 ?side2 A31.out).mono ?_); (case side1 => exact kc_ (Kd.R_reads' HO_3.out).2.2); (case side2 => exact (Kd.R_reads' HO_3.out).2.1); rintro e w76 ⟨v804, rfl, ho0, hb⟩; refine ⟨_, rfl, ?_⟩; have n0_ := Aside0.mk (Kd.R_elder' (kr_ HO_3.out) (Kd.R_base ho0) hb); have n1_ := Aside0.mk (Kd.S_below (by (with_reducible repeat (first | apply Kd.S_alloc | apply Kd.S_drewN | apply Kd.S_drew)); exact HO_797002.out) hb); have n2_ := Aside0.mk (Kd.S_below (by (with_reducible repeat (first | apply Kd.S_alloc | apply Kd.S_drewN | apply Kd.S_drew)); exact HO_803002.out) hb); have n3_ := Aside0.mk (Kd.R_lower (Kd.R_new' ho0 (Kd.R_lt (kr_ HO_3.out))) (below_size (by repeat (first | (with_reducible first | exact HB.out | apply below_alloc | apply pw_below_drewN | apply below_drew1 | refine below_set ?_ GE796.out | refine below_set ?_ GE802.out) | exact HB.out)))); have n4_ := Aside0.mk (blk_below (g := gb796) (o := .cells #[.int .i64 t791, .int .i64 t792, .slice Ao13 t793.length co13] 44 (0, 0)) (bk_ BK796.out) hb); have n5_ := Aside0.mk (blk_below (g := gb802) (o := .cells #[.int .i64 t797, .int .i64 t798, .slice Ao18 t799.length co18] 44 (0, 0)) (bk_ BK802.out) hb); have n6_ := Aside0.mk (below_step (by repeat (first | (with_reducible first | exact HB.out | apply below_alloc | apply pw_below_drewN | apply below_drew1 | refine below_set ?_ GE796.out | refine below_set ?_ GE802.out) | exact HB.out)) hb); clear HO_3; clear HO_797002; clear HO_803002; clear BK796; clear BK802; clear HB; have HO_3 := n0_; have HO_797002 := n1_; have HO_803002 := n2_; have HO805 := n3_; have BK796 := n4_; have BK802 := n5_; have HB := n6_; clear n0_ n1_ n2_ n3_ n4_ n5_ n6_; (try clear hb); (try clear hb2); (try clear hk); (try clear hi); (try clear ho0); obtain ⟨Ao77, co77, eo77⟩ := Kd.R_slice HO805.out; subst eo77) | ((with_reducible refine gate_callee (f := 14) rfl ?_); refine goesL_ (some 53) rfl rfl Try.func14 (by kernel_rfl) rfl #[.slice Ao9 t786.length co9] rfl al_ ?_; (with_reducible refine (spec_PairsOk.calls kj6 _ _ t786 false _ ?side1 ?side2 A32.out).mono ?_); (case side1 => exact kc_ (Kd.R_reads' HO_3.out).2.2); (case side2 => exact (Kd.R_reads' HO_3.out).2.1); rintro e w78 ⟨rfl, hb⟩; refine ⟨_, rfl, ?_⟩; have n0_ := Aside0.mk (Kd.R_below (kr_ HO_3.out) hb); have n1_ := Aside0.mk (Kd.S_below (by (with_reducible repeat (first | apply Kd.S_alloc | apply Kd.S_drewN | apply Kd.S_drew)); exact HO_797002.out) hb); have n2_ := Aside0.mk (Kd.S_below (by (with_reducible repeat (first | apply Kd.S_alloc | apply Kd.S_drewN | apply Kd.S_drew)); exact HO_803002.out) hb); have n3_ := Aside0.mk (Kd.R_below (kr_ HO805.out) hb); have n4_ := Aside0.mk (blk_below (g := gb796) (o := .cells #[.int .i64 t791, .int .i64 t792, .slice Ao13 t793.length co13] 44 (0, 0)) (bk_ BK796.out) hb); have n5_ := Aside0.mk (blk_below (g := gb802) (o := .cells #[.int .i64 t797, .int .i64 t798, .slice Ao18 t799.length co18] 44 (0, 0)) (bk_ BK802.out) hb); have n6_ := Aside0.mk (below_step (by repeat (first | (with_reducible first | exact HB.out | apply below_alloc | apply pw_below_drewN | apply below_drew1 | refine below_set ?_ GE796.out | refine below_set ?_ GE802.out) | exact HB.out)) hb); clear HO_3; clear HO_797002; clear HO_803002; clear HO805; clear BK796; clear BK802; clear HB; have HO_3 := n0_; have HO_797002 := n1_; have HO_803002 := n2_; have HO805 := n3_; have BK796 := n4_; have BK802 := n5_; have HB := n6_; clear n0_ n1_ n2_ n3_ n4_ n5_ n6_; (try clear hb); (try clear hb2); (try clear hk); (try clear hi); have hnb79 := NB796_802.out; have hnc79 := NB802_796.out; have hcz80_0 : w78.cell? ⟨gb796, 0, none⟩ = some (.int .i64 t791) := (blk_cell BK796.out 0).trans rfl; have hcz80_1 : w78.cell? ⟨gb796, 1, none⟩ = some (.int .i64 t792) := (blk_cell BK796.out 1).trans rfl; have hcz80_2 : w78.cell? ⟨gb796, 2, none⟩ = some (.slice Ao13 t793.length co13) := (blk_cell BK796.out 2).trans rfl; have hfz80_0 := blk_frozen BK796.out 0; have hfz80_1 := blk_frozen BK796.out 1; have hfz80_2 := blk_frozen BK796.out 2))
          go_ret
          exact ⟨by first | rfl | (simp [errW_none, errW_some] <;> rfl) | (simp [*, errW_none, errW_some] <;> rfl), by repeat (first | (with_reducible first | exact HB.out | apply below_alloc | apply pw_below_drewN | apply below_drew1 | refine below_set ?_ GE796.out | refine below_set ?_ GE802.out) | exact HB.out)⟩

end Go.Proofs.Ytgaalomhipfgjaa.P
