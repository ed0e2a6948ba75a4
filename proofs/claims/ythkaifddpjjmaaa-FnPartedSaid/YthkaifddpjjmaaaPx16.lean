-- Written by wip/xp/xp.py over the kit's print; Lean checks it.
import Derived.Test.YthkaifddpjjmaaaPx0
import Derived.Test.YthkaifddpjjmaaaPx1
import Derived.Test.YthkaifddpjjmaaaPx2
import Derived.Test.YthkaifddpjjmaaaPx7
import Derived.Test.YthkaifddpjjmaaaPx11
import Derived.Test.YthkaifddpjjmaaaPx12
import Derived.Test.YthkaifddpjjmaaaPx13
import Derived.Test.YthkaifddpjjmaaaPx15
namespace Go.Proofs.Ythkaifddpjjmaaa.P
open Go.RowKit Go.Proofs.YthkaifddpjjmaaaW.PrintWords Go.Proofs.YthkaifddpjjmaaaW.PrintLast Go.Proofs.YthkaifddpjjmaaaW.PrintMore
attribute [local go_sem] max2_int min2_int max_two min_two max_three min_three max_four min_four   -- for this text's walks alone
set_option linter.unusedVariables false
set_option linter.unusedSimpArgs false

attribute [local go_sem high] eqA26
/-! ###  laws_FnParted: function 3 -/
def laws_FnParted.j0 : Nat → List (S26) → Int → Int → List ByteArray → Bool → Bool → ByteArray → ByteArray → Option (Bool)
  | 0, _, _, _, _, _, _, _, _ => none
  | k + 1, x3, x5, x6, x7, x10, x65, x814000, x814001 => if x65 = true then (some false) else ((spec_PairsOk.f k x3).bind fun t821 => (if t821 = true then ((impl_RootOf.f k x3).bind fun t822 => ((impl_CheckPath.f k x814000 x814001 x5 x6 x7 t822).bind fun t823 => (if t823 = true then (if x10 = true then (some true) else (if x6 = (x3.length : Int) then (if 0 ≤ x5 then (if x5 < (x3.length : Int) then (some ((((rd_T26 x3 x5).f0).toList) == x814000.toList && ((((rd_T26 x3 x5).f1).toList) == x814001.toList))) else (none)) else (none)) else (some false))) else (some true)))) else (some true)))
def laws_FnParted.f (k : Nat) (l0 : List Int) : Option (Bool) := (laws_big.f l0).bind fun t802 => (if t802 = true then (some true) else ((spec_DrawPartAt.f k l0).bind fun bt803 => ((impl_PartAt.f k bt803.1 bt803.2.1 bt803.2.2.1 bt803.2.2.2.1 bt803.2.2.2.2.1 bt803.2.2.2.2.2).bind fun bt814 => ((spec_PartAt.f k bt803.1 bt803.2.1 bt803.2.2.1 bt803.2.2.2.1 bt803.2.2.2.2.1 bt803.2.2.2.2.2).bind fun bt817 => (if (bt814.2.2 != bt817.2.2) = true then (laws_FnParted.j0 k bt803.1 bt803.2.2.2.1 bt803.2.2.2.2.1 bt803.2.2.2.2.2 bt814.2.2 true bt803.2.1 bt803.2.2.1) else (if bt814.1.toList = bt817.1.toList then (if bt814.2.1.toList = bt817.2.1.toList then (if bt814.2.2 = true then ((impl_IsClash.f k bt814.1 bt814.2.1 32).bind fun t820 => (laws_FnParted.j0 k bt803.1 bt803.2.2.2.1 bt803.2.2.2.2.1 bt803.2.2.2.2.2 bt814.2.2 (!t820) bt803.2.1 bt803.2.2.1)) else (laws_FnParted.j0 k bt803.1 bt803.2.2.2.1 bt803.2.2.2.2.1 bt803.2.2.2.2.2 bt814.2.2 false bt803.2.1 bt803.2.2.1)) else (laws_FnParted.j0 k bt803.1 bt803.2.2.2.1 bt803.2.2.2.2.1 bt803.2.2.2.2.2 bt814.2.2 true bt803.2.1 bt803.2.2.1)) else (laws_FnParted.j0 k bt803.1 bt803.2.2.2.1 bt803.2.2.2.2.1 bt803.2.2.2.2.2 bt814.2.2 true bt803.2.1 bt803.2.2.1)))))))
def laws_FnParted.T8 : Bool × List (List Nat × List Nat) := (true, [([], []), ([0], [0]), ([1], [1]), ([2, 1], [2]), ([3], [3]), ([3], [3]), ([3], [3]), ([3], [3]), ([3], [3]), ([8, 3, 3], [3, 8]), ([4, 5, 6, 7, 9, 9, 3], [3, 4, 5, 6, 7, 9]), ([10, 3], [3, 10]), ([3, 11], [3, 11])])
def laws_FnParted.B8 : List Nat := [0, 1, 3, 7, 15, 15, 15, 15, 15, 271, 1023, 2047, 4095]
theorem laws_FnParted.tab8 : rtab .any (opsOf Try.f3 8) = laws_FnParted.T8 := by kernel_rfl
theorem laws_FnParted.bits8 : waitsOk laws_FnParted.T8.2 laws_FnParted.B8 = true := by kernel_rfl
def laws_FnParted.T10 : Bool × List (List Nat × List Nat) := (true, [([], []), ([0], [0]), ([1], [1]), ([1], [1]), ([3, 1], [1, 3]), ([2, 4, 1], [1, 2, 4]), ([5, 1, 1], [1, 5]), ([6], [6]), ([6], [6]), ([7, 8, 6], [6, 7, 8]), ([9, 6], [6, 9]), ([6], [6]), ([10, 11, 6], [6, 10, 11]), ([6, 12, 1], [1, 6, 12]), ([1, 13], [1, 13]), ([14, 6, 0, 1, 2, 3, 4, 5, 6, 7, 8, 9, 10, 11, 12, 13, 14], [14])])
def laws_FnParted.B10 : List Nat := [0, 1, 3, 3, 11, 31, 63, 127, 127, 511, 1023, 127, 4095, 8191, 16383, 32767]
theorem laws_FnParted.tab10 : rtab .any (opsOf Try.f3 10) = laws_FnParted.T10 := by kernel_rfl
theorem laws_FnParted.bits10 : waitsOk laws_FnParted.T10.2 laws_FnParted.B10 = true := by kernel_rfl
set_option maxHeartbeats 8000000 in
set_option maxRecDepth 100000 in
theorem laws_FnParted.calls (k : Nat) (A0 : Option Addr) (c0 : Nat) (l0 : List Int) (r : Bool) (w : World) (hr0 : Kd.C (Kd.int .u8) w A0 l0.length l0) (hc0 : l0.length ≤ c0) (h : laws_FnParted.f k l0 = some r) :
  Calls Try.prog 3 #[.slice A0 l0.length c0] w fun e w' => e = .returned (.bool r) ∧ Below w.heap.size w w' := by
  have hu26 := Try.underlying26
  have HR0 := Aside0.mk hr0
  have HC0 := Aside0.mk hc0
  clear hr0 hc0
  have HB := q_ (Below.refl w.heap.size w)
  have H := h
  clear h
  unfold laws_FnParted.f at H
  obtain ⟨t802, A2, H⟩ := bo_ H
  by_cases c3 : t802 = true
  · subst c3
    rw [if_pos rfl] at H
    obtain rfl := Option.some.inj H
    go_enter Try.func3, Try.ntmps3
    go_wp2_with (first | ((with_reducible refine gate_callee (f := 7) rfl ?_); refine gl_ (some 15) Try.func7 #[.slice A0 l0.length c0] rfl al_ ?_; (with_reducible refine (laws_big.calls _ _ l0 true _ ?side1 ?side2 A2.out).mono ?_); (case side1 => exact kc_ HR0.out); (case side2 => exact HC0.out); rintro e w' ⟨rfl, ⟨nd, rfl⟩⟩; refine ⟨_, rfl, ?_⟩))
    go_ret
    exact ⟨rf_, be_ HB.out⟩
  · replace c3 := Bool.eq_false_iff.mpr c3
    subst c3
    rw [if_neg (show ¬ (false = true) by decide)] at H
    obtain ⟨⟨t803, t806, t807, t808, t809, t810⟩, A4, H⟩ := bo_ H; try dsimp only at H
    obtain ⟨⟨t814, t815, t816⟩, A5, H⟩ := bo_ H; try dsimp only at H
    obtain ⟨⟨t817, t818, t819⟩, A6, H⟩ := bo_ H; try dsimp only at H
    have HC7 := Aside0.mk H
    clear H
    go_enter Try.func3, Try.ntmps3
    go_upto_region 6 with (first | ((with_reducible refine gate_callee (f := 7) rfl ?_); refine gl_ (some 15) Try.func7 #[.slice A0 l0.length c0] rfl al_ ?_; (with_reducible refine (laws_big.calls _ _ l0 false _ ?side1 ?side2 A2.out).mono ?_); (case side1 => exact kc_ HR0.out); (case side2 => exact HC0.out); rintro e w' ⟨rfl, ⟨nd, rfl⟩⟩; refine ⟨_, rfl, ?_⟩) | ((with_reducible refine gate_callee (f := 8) rfl ?_); refine gl_ (some 18) Try.func8 #[.slice A0 l0.length c0] rfl al_ ?_; (with_reducible refine (spec_DrawPartAt.calls k _ _ l0 t803 t806 t807 t808 t809 t810 _ ?side1 ?side2 A4.out).mono ?_); (case side1 => exact kc_ HR0.out); (case side2 => exact HC0.out); rintro e w8 ⟨v804, v811, rfl, ho0, ho1, hb⟩; refine ⟨_, rfl, ?_⟩; have HO805 := q_ (Kd.R_lower ho0 (below_size (be_ HB.out))); have HO812 := q_ (Kd.R_lower ho1 (below_size (be_ HB.out))); replace HB := q_ (below_step (be_ HB.out) hb); (try clear hb); (try clear ho0); (try clear ho1)) | ((with_reducible refine gate_dst (N := 4) rfl ?_); (try (refine gate_guard (by rfl) ?_; dsimp only)); refine box_event rfl (N := 4) rfl (cs := #[.string (⟨#[]⟩ : ByteArray), .string (⟨#[]⟩ : ByteArray)]) (t := 26) hr_ ?_; intro gb813 hg w9 hbox hb; replace HO805 := q_ (Kd.R_below (Kd.R_elderB (kr_ HO805.out) gb813 (Nat.le_of_eq hg.symm)) hb); replace HO812 := q_ (Kd.R_below (kr_ HO812.out) hb); have BK813 := q_ (hbox); have GW813 := q_ ((by rw [hg]; exact (below_size (be_ HB.out)) : w.heap.size ≤ gb813)); have GE813 := q_ ((by rw [hg]; exact (below_size (be_ HB.out)) : w.heap.size ≤ gb813)); replace HB := q_ (below_step (be_ HB.out) hb); clear hb hbox hg; obtain ⟨hcz10_0, hcz10_1, hfz10_0, hfz10_1⟩ := bx2_ BK813.out; obtain ⟨Ao11, co11, eo11⟩ := Kd.R_slice HO805.out; subst eo11; obtain ⟨Ao12, co12, eo12⟩ := Kd.R_slice HO812.out; subst eo12) | ((with_reducible refine gate_callee (f := 9) rfl ?_); refine gl_ (some 30) Try.func9 #[.slice Ao11 t803.length co11, .agg #[.string t806, .string t807], .int .i64 t808, .int .i64 t809, .slice Ao12 t810.length co12] rfl al_ ?_; (with_reducible refine (impl_PartAt.calls k _ _ t803 t806 t807 t808 t809 _ _ t810 t814 t815 t816 _ ?side1 ?side2 ?side3 ?side4 A5.out).mono ?_); (case side1 => refine (Kd.R_reads' (e := 26) (base := w.heap.size) (ok := fun k_ => (True ∧ k_ ≠ gb813)) (n := t803.length) (c := co11) ?_).2.2; exact (by (with_reducible repeat (first | apply Kd.R_alloc | apply Kd.R_drewN | apply Kd.R_drew)); exact (Kd.R_mono (Kd.R_far (p := ⟨gb813, 1, none⟩) (Kd.R_far (p := ⟨gb813, 0, none⟩) (Kd.R_mono HO805.out (fun k_ hk => (⟨hk, hk.2⟩ : _ ∧ k_ ≠ gb813))) (fun _ hk => hk.2) (.string t806)) (fun _ hk => hk.2) (.string t807)) (fun _ h_ => h_.1)))); (case side2 => exact (Kd.R_reads' HO805.out).2.1); (case side3 => refine (Kd.R_reads' (e := 9) (base := w.heap.size) (ok := fun k_ => True) (n := t810.length) (c := co12) ?_).2.2; exact (by (with_reducible repeat (first | apply Kd.R_alloc | apply Kd.R_drewN | apply Kd.R_drew)); exact (Kd.R_mono (Kd.R_far (p := ⟨gb813, 1, none⟩) (Kd.R_far (p := ⟨gb813, 0, none⟩) (Kd.R_types HO812.out BK813.out (by decide)) (fun _ hk => hk.2) (.string t806)) (fun _ hk => hk.2) (.string t807)) (fun _ h_ => h_.1)))); (case side4 => exact (Kd.R_reads' HO812.out).2.1); rintro e w13 ⟨rfl, hb⟩; refine ⟨_, rfl, ?_⟩; replace HO805 := q_ (Kd.R_below (by (with_reducible repeat (first | apply Kd.R_alloc | apply Kd.R_drewN | apply Kd.R_drew)); exact (Kd.R_mono (Kd.R_far (p := ⟨gb813, 1, none⟩) (Kd.R_far (p := ⟨gb813, 0, none⟩) (Kd.R_mono HO805.out (fun k_ hk => (⟨hk, hk.2⟩ : _ ∧ k_ ≠ gb813))) (fun _ hk => hk.2) (.string t806)) (fun _ hk => hk.2) (.string t807)) (fun _ h_ => h_.1))) hb); replace HO812 := q_ (Kd.R_below (by (with_reducible repeat (first | apply Kd.R_alloc | apply Kd.R_drewN | apply Kd.R_drew)); exact (Kd.R_mono (Kd.R_far (p := ⟨gb813, 1, none⟩) (Kd.R_far (p := ⟨gb813, 0, none⟩) (Kd.R_types HO812.out BK813.out (by decide)) (fun _ hk => hk.2) (.string t806)) (fun _ hk => hk.2) (.string t807)) (fun _ h_ => h_.1))) hb); replace BK813 := q_ (blk_below (g := gb813) (o := .cells #[.string t806, .string t807] 26 (0, 0)) (by (with_reducible repeat (first | refine blk_drewN ?_ _ | refine blk_drew ?_ | refine blk_alloc ?_ _)); refine blk_put (cs := #[.string t806, .string (⟨#[]⟩ : ByteArray)]) ?_ 1 _ rfl; (with_reducible repeat (first | refine blk_drewN ?_ _ | refine blk_drew ?_ | refine blk_alloc ?_ _)); refine blk_put (cs := #[.string (⟨#[]⟩ : ByteArray), .string (⟨#[]⟩ : ByteArray)]) ?_ 0 _ rfl; (with_reducible repeat (first | refine blk_drewN ?_ _ | refine blk_drew ?_ | refine blk_alloc ?_ _)); exact BK813.out) hb); replace HB := q_ (below_step (bs_ HB.out GE813.out) hb); (try clear hb); obtain ⟨hcz14_0, hcz14_1, hfz14_0, hfz14_1⟩ := bx2_ BK813.out) | ((with_reducible refine gate_callee (f := 10) rfl ?_); refine gl_ (some 40) Try.func10 #[.slice Ao11 t803.length co11, .agg #[.string t806, .string t807], .int .i64 t808, .int .i64 t809, .slice Ao12 t810.length co12] rfl al_ ?_; (with_reducible refine (spec_PartAt.calls k _ _ t803 t806 t807 t808 t809 _ _ t810 t817 t818 t819 _ ?side1 ?side2 ?side3 ?side4 A6.out).mono ?_); (case side1 => exact kc_ (Kd.R_reads' HO805.out).2.2); (case side2 => exact (Kd.R_reads' HO805.out).2.1); (case side3 => exact kc_ (Kd.R_reads' HO812.out).2.2); (case side4 => exact (Kd.R_reads' HO812.out).2.1); rintro e w15 ⟨rfl, hb⟩; refine ⟨_, rfl, ?_⟩; replace HO805 := q_ (Kd.R_below (kr_ HO805.out) hb); replace HO812 := q_ (Kd.R_below (kr_ HO812.out) hb); replace BK813 := q_ (bb_ BK813.out hb); replace HB := q_ (below_step (bs_ HB.out GE813.out) hb); (try clear hb)))
    (try simp only [Act.put, sa_, sz_, ss_])
    go_cut [65] (fun v65 wc => ∃ (kq : Nat) (x65_6 : Bool), v65 = .bool x65_6 ∧ Aside0 (laws_FnParted.j0 kq t803 t808 t809 t810 t816 x65_6 t806 t807 = some r) ∧ Aside0 (kq ≤ k) ∧ Aside0 (Kd.R k26 26 wc w.heap.size (fun k_ => k_ ≠ gb813) (.slice Ao11 t803.length co11) t803) ∧ Aside0 (Kd.R Kd.string 9 wc w.heap.size (fun _ => True) (.slice Ao12 t810.length co12) t810) ∧ Aside0 (wc.heap[gb813]? = some (.cells #[.string t806, .string t807] 26 (0, 0))) ∧ Aside0 (Below w.heap.size w wc))
    case first =>
     have H := HC7.out
     clear HC7
     by_cases c16 : (t816 != t819) = true
     · rw [if_pos c16] at H
       have c16b0 : (t816 != t819) = true := c16
       (try (have c16b1 : decide (t816 = t819) = false := by simpa using c16))
       (try (have c16b2 : (t816 == t819) = false := by simpa using c16))
       (try (have c16b3 : ¬ (t816 = t819) := by simpa using c16))
       clear c16
       (first | rw [c16b0] | (simp only [i64_w, i32_w]; rw [c16b0]) | skip)
       have H' := Aside0.mk H
       clear H
       go_wp2
       go_meet
       case rel => exact ⟨_, (true), rs_, H', ⟨by first | omega | exact Nat.le_refl _⟩, ⟨by (with_reducible repeat (first | apply Kd.R_alloc | apply Kd.R_drewN | apply Kd.R_drew)); exact Kd.R_mono HO805.out (fun _ hk => hk.2)⟩, ⟨by (with_reducible repeat (first | apply Kd.R_alloc | apply Kd.R_drewN | apply Kd.R_drew)); exact HO812.out⟩, ⟨by (with_reducible repeat (first | refine blk_drewN ?_ _ | refine blk_drew ?_ | refine blk_alloc ?_ _)); exact BK813.out⟩, ⟨bs_ HB.out GE813.out⟩⟩
     rw [if_neg c16] at H
     have c16b0 : (t816 != t819) = false := by simpa using c16
     (try (have c16b1 : decide (t816 = t819) = true := by simpa using c16))
     (try (have c16b2 : (t816 == t819) = true := by simpa using c16))
     clear c16
     (first | rw [c16b0] | (simp only [i64_w, i32_w]; rw [c16b0]) | skip)
     by_cases c17 : t814.toList = t817.toList
     rotate_left
     · rw [if_neg c17] at H
       have c17b0 := beq_eq_false_iff_ne.mpr c17
       have c17b1 := bne_iff_ne.mpr c17
       have H' := Aside0.mk H
       clear H
       go_wp2
       go_meet
       case rel => exact ⟨_, (true), rs_, H', ⟨by first | omega | exact Nat.le_refl _⟩, ⟨by (with_reducible repeat (first | apply Kd.R_alloc | apply Kd.R_drewN | apply Kd.R_drew)); exact Kd.R_mono HO805.out (fun _ hk => hk.2)⟩, ⟨by (with_reducible repeat (first | apply Kd.R_alloc | apply Kd.R_drewN | apply Kd.R_drew)); exact HO812.out⟩, ⟨by (with_reducible repeat (first | refine blk_drewN ?_ _ | refine blk_drew ?_ | refine blk_alloc ?_ _)); exact BK813.out⟩, ⟨bs_ HB.out GE813.out⟩⟩
     rw [if_pos c17] at H
     have c17b0 := beq_iff_eq.mpr c17
     have c17b1 := bne_eq_false_iff_eq.mpr c17
     clear c17
     by_cases c18 : t815.toList = t818.toList
     rotate_left
     · rw [if_neg c18] at H
       have c18b0 := beq_eq_false_iff_ne.mpr c18
       have c18b1 := bne_iff_ne.mpr c18
       have H' := Aside0.mk H
       clear H
       go_wp2
       go_meet
       case rel => exact ⟨_, (true), rs_, H', ⟨by first | omega | exact Nat.le_refl _⟩, ⟨by (with_reducible repeat (first | apply Kd.R_alloc | apply Kd.R_drewN | apply Kd.R_drew)); exact Kd.R_mono HO805.out (fun _ hk => hk.2)⟩, ⟨by (with_reducible repeat (first | apply Kd.R_alloc | apply Kd.R_drewN | apply Kd.R_drew)); exact HO812.out⟩, ⟨by (with_reducible repeat (first | refine blk_drewN ?_ _ | refine blk_drew ?_ | refine blk_alloc ?_ _)); exact BK813.out⟩, ⟨bs_ HB.out GE813.out⟩⟩
     rw [if_pos c18] at H
     have c18b0 := beq_iff_eq.mpr c18
     have c18b1 := bne_eq_false_iff_eq.mpr c18
     clear c18
     by_cases c19 : t816 = true
     rotate_left
     · replace c19 := Bool.eq_false_iff.mpr c19
       subst c19
       rw [if_neg (show ¬ (false = true) by decide)] at H
       have H' := Aside0.mk H
       clear H
       go_wp2
       go_meet
       case rel => exact ⟨_, (false), rs_, H', ⟨by first | omega | exact Nat.le_refl _⟩, ⟨by (with_reducible repeat (first | apply Kd.R_alloc | apply Kd.R_drewN | apply Kd.R_drew)); exact Kd.R_mono HO805.out (fun _ hk => hk.2)⟩, ⟨by (with_reducible repeat (first | apply Kd.R_alloc | apply Kd.R_drewN | apply Kd.R_drew)); exact HO812.out⟩, ⟨by (with_reducible repeat (first | refine blk_drewN ?_ _ | refine blk_drew ?_ | refine blk_alloc ?_ _)); exact BK813.out⟩, ⟨bs_ HB.out GE813.out⟩⟩
     subst c19
     rw [if_pos rfl] at H
     obtain ⟨t820, A20, H⟩ := bo_ H
     have H' := Aside0.mk H
     clear H
     go_wp2_with (first | (go_at_call 11; (with_reducible refine (impl_IsClash.calls k t814 t815 32 t820 _ A20.out).mono ?_); rintro e w21 ⟨rfl, hb⟩; replace HO805 := q_ (Kd.R_below (kr_ HO805.out) hb); replace HO812 := q_ (Kd.R_below (kr_ HO812.out) hb); replace BK813 := q_ (bb_ BK813.out hb); replace HB := q_ (below_step (bs_ HB.out GE813.out) hb); (try clear hb)))
     go_meet
     case rel => exact ⟨_, (!t820), rs_, H', ⟨by first | omega | exact Nat.le_refl _⟩, ⟨by (with_reducible repeat (first | apply Kd.R_alloc | apply Kd.R_drewN | apply Kd.R_drew)); exact Kd.R_mono HO805.out (fun _ hk => hk.2)⟩, ⟨by (with_reducible repeat (first | apply Kd.R_alloc | apply Kd.R_drewN | apply Kd.R_drew)); exact HO812.out⟩, ⟨by (with_reducible repeat (first | refine blk_drewN ?_ _ | refine blk_drew ?_ | refine blk_alloc ?_ _)); exact BK813.out⟩, ⟨bs_ HB.out GE813.out⟩⟩
    case rest =>
     clear HC7
     try clear c1
     try clear p2
     try clear c3
     try clear c7
     try clear c8
     try clear c9
     try clear c10
     try clear c16
     try clear c16b0
     try clear c16b1
     try clear c16b2
     try clear c17
     try clear c17b0
     try clear c17b1
     try clear c18
     try clear c18b0
     try clear c18b1
     try clear c19
     try clear hcz10_0
     try clear hcz10_1
     try clear hcz14_0
     try clear hcz14_1
     try clear hfz10_0
     try clear hfz10_1
     try clear hfz14_0
     try clear hfz14_1
     obtain ⟨kq, x65_6, rfl, HA, HJ6, HO_3, HO_7, BK813, HB⟩ := hcut
     cases kq with
     | zero => exact absurd HA.out (by simp [laws_FnParted.j0])
     | succ kj6 =>
      have H := HA.out
      clear HA
      simp only [laws_FnParted.j0] at H
      by_cases c22 : x65_6 = true
      · subst c22
        rw [if_pos rfl] at H
        obtain rfl := Option.some.inj H
        go_wp2
        go_ret
        exact ⟨rf_, bs_ HB.out GE813.out⟩
      · replace c22 := Bool.eq_false_iff.mpr c22
        subst c22
        rw [if_neg (show ¬ (false = true) by decide)] at H
        obtain ⟨t821, A23, H⟩ := bo_ H
        by_cases c24 : t821 = true
        · subst c24
          rw [if_pos rfl] at H
          obtain ⟨t822, A25, H⟩ := bo_ H
          obtain ⟨t823, A26, H⟩ := bo_ H
          by_cases c27 : t823 = true
          rotate_left
          · replace c27 := Bool.eq_false_iff.mpr c27
            subst c27
            rw [if_neg (show ¬ (false = true) by decide)] at H
            obtain rfl := Option.some.inj H
            try go_wp2
            replace HO_3 := q_ (Kd.R_drew HO_3.out)
            replace HO_7 := q_ (Kd.R_drew HO_7.out)
            replace BK813 := q_ (blk_drew BK813.out)
            replace HB := q_ (below_drew1 HB.out)
            refine start_ (n := 13) (S := fun w' => w'.cell? ⟨gb813, 0, none⟩ = some (.string t806) ∧ w'.cell? ⟨gb813, 1, none⟩ = some (.string t807)) (ds := []) (bq_ 0 13) (by kernel_rfl) rfl rfl ⟨(blk_cell BK813.out 0).trans rfl, (blk_cell BK813.out 1).trans rfl⟩ (fun hHeld => ?_); refine with_tabW laws_FnParted.tab8 laws_FnParted.bits8 (fun HT_ HW_ => ?_)
            generalize wc.drew = w47 at HO_3 HO_7 BK813 HB hHeld ⊢
            refine p_ 0 66 HT_ ?_
            refine oc_ 1 67 (bq_ 2 11) HT_ Try.func12 #[.slice Ao11 t803.length co11] ?_
            with_reducible refine (spec_PairsOk.calls kj6 _ _ t803 true _ ?side1 ?side2 A23.out).mono ?_
            (case side1 => exact kc_ (Kd.R_reads' HO_3.out).2.2)
            (case side2 => exact (Kd.R_reads' HO_3.out).2.1)
            rintro e w48 ⟨rfl, hb⟩
            refine ⟨_, rfl, ?_⟩
            replace HO_3 := q_ (Kd.R_below (kr_ HO_3.out) hb)
            replace HO_7 := q_ (Kd.R_below (kr_ HO_7.out) hb)
            replace BK813 := q_ (bb_ BK813.out hb)
            replace HB := q_ (below_step (bs_ HB.out GE813.out) hb)
            (try clear hb)
            (try clear hb2)
            (try clear hk)
            (try clear hi)
            refine ⟨⟨(blk_cell BK813.out 0).trans rfl, (blk_cell BK813.out 1).trans rfl⟩, fun hHeld => nm_ ?_⟩
            refine p_ 2 68 HT_ ?_; refine p_ 3 69 HT_ ?_; refine p_ 5 71 HT_ ?_; refine p_ 6 72 HT_ ?_; refine p_ 7 73 HT_ ?_; refine p_ 8 74 HT_ ?_; refine k_ 4 70 HT_ HW_ hHeld ?_
            refine oc_ 9 75 (bq_ 10 3) HT_ Try.func14 #[.slice Ao11 t803.length co11] ?_
            with_reducible refine (impl_RootOf.calls kj6 _ _ t803 t822 _ ?side1 ?side2 A25.out).mono ?_
            (case side1 => exact kc_ (Kd.R_reads' HO_3.out).2.2)
            (case side2 => exact (Kd.R_reads' HO_3.out).2.1)
            rintro e w49 ⟨rfl, hb⟩
            refine ⟨_, rfl, ?_⟩
            replace HO_3 := q_ (Kd.R_below (kr_ HO_3.out) hb)
            replace HO_7 := q_ (Kd.R_below (kr_ HO_7.out) hb)
            replace BK813 := q_ (bb_ BK813.out hb)
            replace HB := q_ (below_step (bs_ HB.out GE813.out) hb)
            (try clear hb)
            (try clear hb2)
            (try clear hk)
            (try clear hi)
            refine ⟨⟨(blk_cell BK813.out 0).trans rfl, (blk_cell BK813.out 1).trans rfl⟩, fun hHeld => nm_ ?_⟩
            refine oc_ 10 76 (bq_ 11 2) HT_ Try.func13 #[.agg #[.string t806, .string t807], .int .i64 t808, .int .i64 t809, .slice Ao12 t810.length co12, .string t822] ?_
            with_reducible refine (impl_CheckPath.calls kj6 t806 t807 t808 t809 _ _ t810 t822 false _ ?side1 ?side2 A26.out).mono ?_
            (case side1 => exact kc_ (Kd.R_reads' HO_7.out).2.2)
            (case side2 => exact (Kd.R_reads' HO_7.out).2.1)
            rintro e w50 ⟨rfl, hb⟩
            refine ⟨_, rfl, ?_⟩
            replace HO_3 := q_ (Kd.R_below (kr_ HO_3.out) hb)
            replace HO_7 := q_ (Kd.R_below (kr_ HO_7.out) hb)
            replace BK813 := q_ (bb_ BK813.out hb)
            replace HB := q_ (below_step (bs_ HB.out GE813.out) hb)
            (try clear hb)
            (try clear hb2)
            (try clear hk)
            (try clear hi)
            refine ⟨⟨(blk_cell BK813.out 0).trans rfl, (blk_cell BK813.out 1).trans rfl⟩, fun hHeld => nm_ ?_⟩
            refine p_ 11 77 HT_ ?_; refine p_ 12 78 HT_ ?_
            refine done_ (done_of HT_.out (by kernel_rfl)) ?_
            try go_wp2
            go_ret
            exact ⟨rf_, bs_ HB.out GE813.out⟩
          subst c27
          rw [if_pos rfl] at H
          by_cases c28 : t816 = true
          · subst c28
            rw [if_pos rfl] at H
            obtain rfl := Option.some.inj H
            try go_wp2
            replace HO_3 := q_ (Kd.R_drew HO_3.out)
            replace HO_7 := q_ (Kd.R_drew HO_7.out)
            replace BK813 := q_ (blk_drew BK813.out)
            replace HB := q_ (below_drew1 HB.out)
            refine start_ (n := 13) (S := fun w' => w'.cell? ⟨gb813, 0, none⟩ = some (.string t806) ∧ w'.cell? ⟨gb813, 1, none⟩ = some (.string t807)) (ds := []) (bq_ 0 13) (by kernel_rfl) rfl rfl ⟨(blk_cell BK813.out 0).trans rfl, (blk_cell BK813.out 1).trans rfl⟩ (fun hHeld => ?_); refine with_tabW laws_FnParted.tab8 laws_FnParted.bits8 (fun HT_ HW_ => ?_)
            generalize wc.drew = w29 at HO_3 HO_7 BK813 HB hHeld ⊢
            refine p_ 0 66 HT_ ?_
            refine oc_ 1 67 (bq_ 2 11) HT_ Try.func12 #[.slice Ao11 t803.length co11] ?_
            with_reducible refine (spec_PairsOk.calls kj6 _ _ t803 true _ ?side1 ?side2 A23.out).mono ?_
            (case side1 => exact kc_ (Kd.R_reads' HO_3.out).2.2)
            (case side2 => exact (Kd.R_reads' HO_3.out).2.1)
            rintro e w30 ⟨rfl, hb⟩
            refine ⟨_, rfl, ?_⟩
            replace HO_3 := q_ (Kd.R_below (kr_ HO_3.out) hb)
            replace HO_7 := q_ (Kd.R_below (kr_ HO_7.out) hb)
            replace BK813 := q_ (bb_ BK813.out hb)
            replace HB := q_ (below_step (bs_ HB.out GE813.out) hb)
            (try clear hb)
            (try clear hb2)
            (try clear hk)
            (try clear hi)
            refine ⟨⟨(blk_cell BK813.out 0).trans rfl, (blk_cell BK813.out 1).trans rfl⟩, fun hHeld => nm_ ?_⟩
            refine p_ 2 68 HT_ ?_; refine p_ 3 69 HT_ ?_; refine p_ 5 71 HT_ ?_; refine p_ 6 72 HT_ ?_; refine p_ 7 73 HT_ ?_; refine p_ 8 74 HT_ ?_; refine k_ 4 70 HT_ HW_ hHeld ?_
            refine oc_ 9 75 (bq_ 10 3) HT_ Try.func14 #[.slice Ao11 t803.length co11] ?_
            with_reducible refine (impl_RootOf.calls kj6 _ _ t803 t822 _ ?side1 ?side2 A25.out).mono ?_
            (case side1 => exact kc_ (Kd.R_reads' HO_3.out).2.2)
            (case side2 => exact (Kd.R_reads' HO_3.out).2.1)
            rintro e w31 ⟨rfl, hb⟩
            refine ⟨_, rfl, ?_⟩
            replace HO_3 := q_ (Kd.R_below (kr_ HO_3.out) hb)
            replace HO_7 := q_ (Kd.R_below (kr_ HO_7.out) hb)
            replace BK813 := q_ (bb_ BK813.out hb)
            replace HB := q_ (below_step (bs_ HB.out GE813.out) hb)
            (try clear hb)
            (try clear hb2)
            (try clear hk)
            (try clear hi)
            refine ⟨⟨(blk_cell BK813.out 0).trans rfl, (blk_cell BK813.out 1).trans rfl⟩, fun hHeld => nm_ ?_⟩
            refine oc_ 10 76 (bq_ 11 2) HT_ Try.func13 #[.agg #[.string t806, .string t807], .int .i64 t808, .int .i64 t809, .slice Ao12 t810.length co12, .string t822] ?_
            with_reducible refine (impl_CheckPath.calls kj6 t806 t807 t808 t809 _ _ t810 t822 true _ ?side1 ?side2 A26.out).mono ?_
            (case side1 => exact kc_ (Kd.R_reads' HO_7.out).2.2)
            (case side2 => exact (Kd.R_reads' HO_7.out).2.1)
            rintro e w32 ⟨rfl, hb⟩
            refine ⟨_, rfl, ?_⟩
            replace HO_3 := q_ (Kd.R_below (kr_ HO_3.out) hb)
            replace HO_7 := q_ (Kd.R_below (kr_ HO_7.out) hb)
            replace BK813 := q_ (bb_ BK813.out hb)
            replace HB := q_ (below_step (bs_ HB.out GE813.out) hb)
            (try clear hb)
            (try clear hb2)
            (try clear hk)
            (try clear hi)
            refine ⟨⟨(blk_cell BK813.out 0).trans rfl, (blk_cell BK813.out 1).trans rfl⟩, fun hHeld => nm_ ?_⟩
            refine p_ 11 77 HT_ ?_; refine p_ 12 78 HT_ ?_
            refine done_ (done_of HT_.out (by kernel_rfl)) ?_
            try go_wp2
            replace HO_3 := q_ (Kd.R_drew HO_3.out)
            replace HO_7 := q_ (Kd.R_drew HO_7.out)
            replace BK813 := q_ (blk_drew BK813.out)
            replace HB := q_ (below_drew1 HB.out)
            refine start_ (n := 16) (S := fun w' => True) (ds := []) (bq_ 0 16) (by kernel_rfl) rfl rfl trivial (fun hHeld => ?_); refine with_tabW laws_FnParted.tab10 laws_FnParted.bits10 (fun HT_ HW_ => ?_)
            generalize w32.drew = w33 at HO_3 HO_7 BK813 HB hHeld ⊢
            refine p_ 0 79 HT_ ?_; refine p_ 1 80 HT_ ?_; refine u_ 2 81 HT_ ?_; refine u_ 3 82 HT_ ?_; refine u_ 4 83 HT_ ?_; refine u_ 5 84 HT_ ?_; refine u_ 6 85 HT_ ?_; refine u_ 7 86 HT_ ?_; refine u_ 8 87 HT_ ?_; refine u_ 9 88 HT_ ?_; refine u_ 10 89 HT_ ?_; refine u_ 11 90 HT_ ?_; refine u_ 12 91 HT_ ?_; refine u_ 13 92 HT_ ?_; refine p_ 14 93 HT_ ?_; refine p_ 15 2 HT_ ?_
            refine done_ (done_of HT_.out (by kernel_rfl)) ?_
            try go_wp2
            go_ret
            exact ⟨rf_, bs_ HB.out GE813.out⟩
          replace c28 := Bool.eq_false_iff.mpr c28
          subst c28
          rw [if_neg (show ¬ (false = true) by decide)] at H
          by_cases c34 : t809 = (t803.length : Int)
          rotate_left
          · rw [if_neg c34] at H
            have c34b0 := beq_eq_false_iff_ne.mpr c34
            have c34b1 := bne_iff_ne.mpr c34
            obtain rfl := Option.some.inj H
            try go_wp2
            replace HO_3 := q_ (Kd.R_drew HO_3.out)
            replace HO_7 := q_ (Kd.R_drew HO_7.out)
            replace BK813 := q_ (blk_drew BK813.out)
            replace HB := q_ (below_drew1 HB.out)
            refine start_ (n := 13) (S := fun w' => w'.cell? ⟨gb813, 0, none⟩ = some (.string t806) ∧ w'.cell? ⟨gb813, 1, none⟩ = some (.string t807)) (ds := []) (bq_ 0 13) (by kernel_rfl) rfl rfl ⟨(blk_cell BK813.out 0).trans rfl, (blk_cell BK813.out 1).trans rfl⟩ (fun hHeld => ?_); refine with_tabW laws_FnParted.tab8 laws_FnParted.bits8 (fun HT_ HW_ => ?_)
            generalize wc.drew = w42 at HO_3 HO_7 BK813 HB hHeld ⊢
            refine p_ 0 66 HT_ ?_
            refine oc_ 1 67 (bq_ 2 11) HT_ Try.func12 #[.slice Ao11 t803.length co11] ?_
            with_reducible refine (spec_PairsOk.calls kj6 _ _ t803 true _ ?side1 ?side2 A23.out).mono ?_
            (case side1 => exact kc_ (Kd.R_reads' HO_3.out).2.2)
            (case side2 => exact (Kd.R_reads' HO_3.out).2.1)
            rintro e w43 ⟨rfl, hb⟩
            refine ⟨_, rfl, ?_⟩
            replace HO_3 := q_ (Kd.R_below (kr_ HO_3.out) hb)
            replace HO_7 := q_ (Kd.R_below (kr_ HO_7.out) hb)
            replace BK813 := q_ (bb_ BK813.out hb)
            replace HB := q_ (below_step (bs_ HB.out GE813.out) hb)
            (try clear hb)
            (try clear hb2)
            (try clear hk)
            (try clear hi)
            refine ⟨⟨(blk_cell BK813.out 0).trans rfl, (blk_cell BK813.out 1).trans rfl⟩, fun hHeld => nm_ ?_⟩
            refine p_ 2 68 HT_ ?_; refine p_ 3 69 HT_ ?_; refine p_ 5 71 HT_ ?_; refine p_ 6 72 HT_ ?_; refine p_ 7 73 HT_ ?_; refine p_ 8 74 HT_ ?_; refine k_ 4 70 HT_ HW_ hHeld ?_
            refine oc_ 9 75 (bq_ 10 3) HT_ Try.func14 #[.slice Ao11 t803.length co11] ?_
            with_reducible refine (impl_RootOf.calls kj6 _ _ t803 t822 _ ?side1 ?side2 A25.out).mono ?_
            (case side1 => exact kc_ (Kd.R_reads' HO_3.out).2.2)
            (case side2 => exact (Kd.R_reads' HO_3.out).2.1)
            rintro e w44 ⟨rfl, hb⟩
            refine ⟨_, rfl, ?_⟩
            replace HO_3 := q_ (Kd.R_below (kr_ HO_3.out) hb)
            replace HO_7 := q_ (Kd.R_below (kr_ HO_7.out) hb)
            replace BK813 := q_ (bb_ BK813.out hb)
            replace HB := q_ (below_step (bs_ HB.out GE813.out) hb)
            (try clear hb)
            (try clear hb2)
            (try clear hk)
            (try clear hi)
            refine ⟨⟨(blk_cell BK813.out 0).trans rfl, (blk_cell BK813.out 1).trans rfl⟩, fun hHeld => nm_ ?_⟩
            refine oc_ 10 76 (bq_ 11 2) HT_ Try.func13 #[.agg #[.string t806, .string t807], .int .i64 t808, .int .i64 t809, .slice Ao12 t810.length co12, .string t822] ?_
            with_reducible refine (impl_CheckPath.calls kj6 t806 t807 t808 t809 _ _ t810 t822 true _ ?side1 ?side2 A26.out).mono ?_
            (case side1 => exact kc_ (Kd.R_reads' HO_7.out).2.2)
            (case side2 => exact (Kd.R_reads' HO_7.out).2.1)
            rintro e w45 ⟨rfl, hb⟩
            refine ⟨_, rfl, ?_⟩
            replace HO_3 := q_ (Kd.R_below (kr_ HO_3.out) hb)
            replace HO_7 := q_ (Kd.R_below (kr_ HO_7.out) hb)
            replace BK813 := q_ (bb_ BK813.out hb)
            replace HB := q_ (below_step (bs_ HB.out GE813.out) hb)
            (try clear hb)
            (try clear hb2)
            (try clear hk)
            (try clear hi)
            refine ⟨⟨(blk_cell BK813.out 0).trans rfl, (blk_cell BK813.out 1).trans rfl⟩, fun hHeld => nm_ ?_⟩
            refine p_ 11 77 HT_ ?_; refine p_ 12 78 HT_ ?_
            refine done_ (done_of HT_.out (by kernel_rfl)) ?_
            try go_wp2
            replace HO_3 := q_ (Kd.R_drew HO_3.out)
            replace HO_7 := q_ (Kd.R_drew HO_7.out)
            replace BK813 := q_ (blk_drew BK813.out)
            replace HB := q_ (below_drew1 HB.out)
            refine start_ (n := 16) (S := fun w' => True) (ds := []) (bq_ 0 16) (by kernel_rfl) rfl rfl trivial (fun hHeld => ?_); refine with_tabW laws_FnParted.tab10 laws_FnParted.bits10 (fun HT_ HW_ => ?_)
            generalize w45.drew = w46 at HO_3 HO_7 BK813 HB hHeld ⊢
            refine p_ 0 79 HT_ ?_; refine p_ 1 80 HT_ ?_; refine p_ 2 81 HT_ ?_; refine p_ 3 82 HT_ ?_; refine p_ 4 83 HT_ ?_; refine p_ 5 84 HT_ ?_; refine p_ 6 85 HT_ ?_; refine u_ 7 86 HT_ ?_; refine u_ 8 87 HT_ ?_; refine u_ 9 88 HT_ ?_; refine u_ 10 89 HT_ ?_; refine u_ 11 90 HT_ ?_; refine u_ 12 91 HT_ ?_; refine p_ 13 92 HT_ ?_; refine p_ 14 93 HT_ ?_; refine p_ 15 2 HT_ ?_
            refine done_ (done_of HT_.out (by kernel_rfl)) ?_
            try go_wp2
            go_ret
            exact ⟨rf_, bs_ HB.out GE813.out⟩
          rw [if_pos c34] at H
          have c34b0 := beq_iff_eq.mpr c34
          have c34b1 := bne_eq_false_iff_eq.mpr c34
          clear c34
          obtain ⟨c35, H⟩ := ip_ H
          have c35b0 : decide (0 ≤ t808) = true := decide_eq_true c35
          clear c35
          obtain ⟨c36, H⟩ := ip_ H
          have c36b0 : decide (t808 < (t803.length : Int)) = true := decide_eq_true c36
          clear c36
          obtain rfl := Option.some.inj H
          try go_wp2
          replace HO_3 := q_ (Kd.R_drew HO_3.out)
          replace HO_7 := q_ (Kd.R_drew HO_7.out)
          replace BK813 := q_ (blk_drew BK813.out)
          replace HB := q_ (below_drew1 HB.out)
          refine start_ (n := 13) (S := fun w' => w'.cell? ⟨gb813, 0, none⟩ = some (.string t806) ∧ w'.cell? ⟨gb813, 1, none⟩ = some (.string t807)) (ds := []) (bq_ 0 13) (by kernel_rfl) rfl rfl ⟨(blk_cell BK813.out 0).trans rfl, (blk_cell BK813.out 1).trans rfl⟩ (fun hHeld => ?_); refine with_tabW laws_FnParted.tab8 laws_FnParted.bits8 (fun HT_ HW_ => ?_)
          generalize wc.drew = w37 at HO_3 HO_7 BK813 HB hHeld ⊢
          refine p_ 0 66 HT_ ?_
          refine oc_ 1 67 (bq_ 2 11) HT_ Try.func12 #[.slice Ao11 t803.length co11] ?_
          with_reducible refine (spec_PairsOk.calls kj6 _ _ t803 true _ ?side1 ?side2 A23.out).mono ?_
          (case side1 => exact kc_ (Kd.R_reads' HO_3.out).2.2)
          (case side2 => exact (Kd.R_reads' HO_3.out).2.1)
          rintro e w38 ⟨rfl, hb⟩
          refine ⟨_, rfl, ?_⟩
          replace HO_3 := q_ (Kd.R_below (kr_ HO_3.out) hb)
          replace HO_7 := q_ (Kd.R_below (kr_ HO_7.out) hb)
          replace BK813 := q_ (bb_ BK813.out hb)
          replace HB := q_ (below_step (bs_ HB.out GE813.out) hb)
          (try clear hb)
          (try clear hb2)
          (try clear hk)
          (try clear hi)
          refine ⟨⟨(blk_cell BK813.out 0).trans rfl, (blk_cell BK813.out 1).trans rfl⟩, fun hHeld => nm_ ?_⟩
          refine p_ 2 68 HT_ ?_; refine p_ 3 69 HT_ ?_; refine p_ 5 71 HT_ ?_; refine p_ 6 72 HT_ ?_; refine p_ 7 73 HT_ ?_; refine p_ 8 74 HT_ ?_; refine k_ 4 70 HT_ HW_ hHeld ?_
          refine oc_ 9 75 (bq_ 10 3) HT_ Try.func14 #[.slice Ao11 t803.length co11] ?_
          with_reducible refine (impl_RootOf.calls kj6 _ _ t803 t822 _ ?side1 ?side2 A25.out).mono ?_
          (case side1 => exact kc_ (Kd.R_reads' HO_3.out).2.2)
          (case side2 => exact (Kd.R_reads' HO_3.out).2.1)
          rintro e w39 ⟨rfl, hb⟩
          refine ⟨_, rfl, ?_⟩
          replace HO_3 := q_ (Kd.R_below (kr_ HO_3.out) hb)
          replace HO_7 := q_ (Kd.R_below (kr_ HO_7.out) hb)
          replace BK813 := q_ (bb_ BK813.out hb)
          replace HB := q_ (below_step (bs_ HB.out GE813.out) hb)
          (try clear hb)
          (try clear hb2)
          (try clear hk)
          (try clear hi)
          refine ⟨⟨(blk_cell BK813.out 0).trans rfl, (blk_cell BK813.out 1).trans rfl⟩, fun hHeld => nm_ ?_⟩
          refine oc_ 10 76 (bq_ 11 2) HT_ Try.func13 #[.agg #[.string t806, .string t807], .int .i64 t808, .int .i64 t809, .slice Ao12 t810.length co12, .string t822] ?_
          with_reducible refine (impl_CheckPath.calls kj6 t806 t807 t808 t809 _ _ t810 t822 true _ ?side1 ?side2 A26.out).mono ?_
          (case side1 => exact kc_ (Kd.R_reads' HO_7.out).2.2)
          (case side2 => exact (Kd.R_reads' HO_7.out).2.1)
          rintro e w40 ⟨rfl, hb⟩
          refine ⟨_, rfl, ?_⟩
          replace HO_3 := q_ (Kd.R_below (kr_ HO_3.out) hb)
          replace HO_7 := q_ (Kd.R_below (kr_ HO_7.out) hb)
          replace BK813 := q_ (bb_ BK813.out hb)
          replace HB := q_ (below_step (bs_ HB.out GE813.out) hb)
          (try clear hb)
          (try clear hb2)
          (try clear hk)
          (try clear hi)
          refine ⟨⟨(blk_cell BK813.out 0).trans rfl, (blk_cell BK813.out 1).trans rfl⟩, fun hHeld => nm_ ?_⟩
          refine p_ 11 77 HT_ ?_; refine p_ 12 78 HT_ ?_
          refine done_ (done_of HT_.out (by kernel_rfl)) ?_
          try go_wp2
          replace HO_3 := q_ (Kd.R_drew HO_3.out)
          replace HO_7 := q_ (Kd.R_drew HO_7.out)
          replace BK813 := q_ (blk_drew BK813.out)
          replace HB := q_ (below_drew1 HB.out)
          have p824 : 0 ≤ (t808 : Int) := od_
          have q824 : t808 < (t803.length : Int) := od_
          obtain ⟨ad824, e824, hx824_0, hx824_1⟩ := at_T26 (Kd.R_reads' HO_3.out).2.2 t808 p824 q824
          cases e824
          replace p824 := eq_true p824
          replace q824 := eq_true q824
          refine start_ (n := 16) (S := fun w' => w'.cell? ⟨gb813, 0, none⟩ = some (.string t806) ∧ w'.cell? ⟨gb813, 1, none⟩ = some (.string t807) ∧ w'.cell? (ad824.add ((t808).toNat * 2)) = some (.string ((rd_T26 t803 t808).f0)) ∧ w'.cell? ⟨(ad824.add ((t808).toNat * 2)).block, (ad824.add ((t808).toNat * 2)).off + 1, none⟩ = some (.string ((rd_T26 t803 t808).f1))) (ds := []) (bq_ 0 16) (by kernel_rfl) rfl rfl ⟨(blk_cell BK813.out 0).trans rfl, (blk_cell BK813.out 1).trans rfl, hx824_0, hx824_1⟩ (fun hHeld => ?_); refine with_tabW laws_FnParted.tab10 laws_FnParted.bits10 (fun HT_ HW_ => ?_)
          generalize w40.drew = w41 at HO_3 HO_7 BK813 HB hx824_0 hx824_1 hHeld ⊢
          refine p_ 0 79 HT_ ?_; refine p_ 1 80 HT_ ?_; refine p_ 2 81 HT_ ?_; refine p_ 3 82 HT_ ?_; refine p_ 4 83 HT_ ?_; refine p_ 5 84 HT_ ?_; refine p_ 6 85 HT_ ?_; refine p_ 7 86 HT_ ?_; refine p_ 8 87 HT_ ?_; refine p_ 9 88 HT_ ?_; refine k_ 10 89 HT_ HW_ hHeld ?_; refine k_ 11 90 HT_ HW_ hHeld ?_; refine p_ 12 91 HT_ ?_; refine p_ 13 92 HT_ ?_; refine p_ 14 93 HT_ ?_; refine p_ 15 2 HT_ ?_
          refine done_ (done_of HT_.out (by kernel_rfl)) ?_
          try go_wp2
          go_ret
          exact ⟨rf_, bs_ HB.out GE813.out⟩
        · replace c24 := Bool.eq_false_iff.mpr c24
          subst c24
          rw [if_neg (show ¬ (false = true) by decide)] at H
          obtain rfl := Option.some.inj H
          try go_wp2
          replace HO_3 := q_ (Kd.R_drew HO_3.out)
          replace HO_7 := q_ (Kd.R_drew HO_7.out)
          replace BK813 := q_ (blk_drew BK813.out)
          replace HB := q_ (below_drew1 HB.out)
          refine start_ (n := 13) (S := fun w' => True) (ds := []) (bq_ 0 13) (by kernel_rfl) rfl rfl trivial (fun hHeld => ?_); refine with_tabW laws_FnParted.tab8 laws_FnParted.bits8 (fun HT_ HW_ => ?_)
          generalize wc.drew = w51 at HO_3 HO_7 BK813 HB hHeld ⊢
          refine p_ 0 66 HT_ ?_
          refine oc_ 1 67 (bq_ 2 11) HT_ Try.func12 #[.slice Ao11 t803.length co11] ?_
          with_reducible refine (spec_PairsOk.calls kj6 _ _ t803 false _ ?side1 ?side2 A23.out).mono ?_
          (case side1 => exact kc_ (Kd.R_reads' HO_3.out).2.2)
          (case side2 => exact (Kd.R_reads' HO_3.out).2.1)
          rintro e w52 ⟨rfl, hb⟩
          refine ⟨_, rfl, ?_⟩
          replace HO_3 := q_ (Kd.R_below (kr_ HO_3.out) hb)
          replace HO_7 := q_ (Kd.R_below (kr_ HO_7.out) hb)
          replace BK813 := q_ (bb_ BK813.out hb)
          replace HB := q_ (below_step (bs_ HB.out GE813.out) hb)
          (try clear hb)
          (try clear hb2)
          (try clear hk)
          (try clear hi)
          refine ⟨trivial, fun hHeld => nm_ ?_⟩
          refine p_ 2 68 HT_ ?_; refine p_ 3 69 HT_ ?_; refine u_ 4 70 HT_ ?_; refine u_ 5 71 HT_ ?_; refine u_ 6 72 HT_ ?_; refine u_ 7 73 HT_ ?_; refine u_ 8 74 HT_ ?_; refine u_ 9 75 HT_ ?_; refine u_ 10 76 HT_ ?_; refine u_ 11 77 HT_ ?_; refine p_ 12 78 HT_ ?_
          refine done_ (done_of HT_.out (by kernel_rfl)) ?_
          try go_wp2
          go_ret
          exact ⟨rf_, bs_ HB.out GE813.out⟩

end Go.Proofs.Ythkaifddpjjmaaa.P
