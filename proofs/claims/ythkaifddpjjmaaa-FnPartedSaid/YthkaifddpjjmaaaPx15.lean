-- Written by wip/xp/xp.py over the kit's print; Lean checks it.
import Derived.Test.YthkaifddpjjmaaaPx0
import Derived.Test.YthkaifddpjjmaaaPx5
import Derived.Test.YthkaifddpjjmaaaPx6
import Derived.Test.YthkaifddpjjmaaaPx7
import Derived.Test.YthkaifddpjjmaaaPx8
import Derived.Test.YthkaifddpjjmaaaPx9
import Derived.Test.YthkaifddpjjmaaaPx10
import Derived.Test.YthkaifddpjjmaaaPx12
import Derived.Test.YthkaifddpjjmaaaPx13
import Derived.Test.YthkaifddpjjmaaaPx14
namespace Go.Proofs.Ythkaifddpjjmaaa.P
open Go.RowKit Go.Proofs.YthkaifddpjjmaaaW.PrintWords Go.Proofs.YthkaifddpjjmaaaW.PrintLast Go.Proofs.YthkaifddpjjmaaaW.PrintMore
attribute [local go_sem] max2_int min2_int max_two min_two max_three min_three max_four min_four   -- for this text's walks alone
set_option linter.unusedVariables false
set_option linter.unusedSimpArgs false

/-! ###  spec_PartAt: function 10 -/
mutual
def spec_PartAt.j0 : Nat → List (S26) → Int → Int → List ByteArray → Bool → ByteArray → ByteArray → Option (ByteArray × ByteArray × Bool)
  | 0, _, _, _, _, _, _, _ => none
  | k + 1, x0, x2, x3, x4, x34, x756000, x756001 => if x34 = true then (some ((⟨#[]⟩ : ByteArray), (⟨#[]⟩ : ByteArray), false)) else ((spec_l4Leaf.f k x756000 x756001).bind fun t759 => ((spec_l4All.f k t759 x2 x3 x4).bind fun bt762 => (if bt762.2 = true then (if (x0.length : Int) = x3 then (if 0 ≤ x2 then (if x2 < (x0.length : Int) then ((spec_l4Leaf.f k ((rd_T26 x0 x2).f0) ((rd_T26 x0 x2).f1)).bind fun t767 => ((spec_l4Path.f k x0 x2).bind fun t770 => ((spec_l4All.f k t767 x2 x3 t770).bind fun bt773 => (spec_PartAt.l0 k x0 bt762.1 bt773.1 0)))) else (none)) else (none)) else (if 0 ≤ (wrap64 ((bt762.1.length : Int) - 1)) then (if (wrap64 ((bt762.1.length : Int) - 1)) < (bt762.1.length : Int) then ((spec_l6None.f k x0).bind fun t786 => ((spec_IsClash.f k (rdOf ByteArray.empty bt762.1 (wrap64 ((bt762.1.length : Int) - 1))) t786 32).bind fun t787 => (some (rdOf ByteArray.empty bt762.1 (wrap64 ((bt762.1.length : Int) - 1)), t786, t787)))) else (none)) else (none))) else (some ((⟨#[]⟩ : ByteArray), (⟨#[]⟩ : ByteArray), false)))))
def spec_PartAt.l0 : Nat → List (S26) → List ByteArray → List ByteArray → Int → Option (ByteArray × ByteArray × Bool)
  | 0, _, _, _, _ => none
  | k + 1, x0, x13, x15, x17 => if x17 < (x13.length : Int) then (if 0 ≤ x17 then (if x17 < (x15.length : Int) then ((spec_IsClash.f k (rdOf ByteArray.empty x13 x17) (rdOf ByteArray.empty x15 x17) 32).bind fun t779 => (if t779 = true then (some (rdOf ByteArray.empty x13 x17, rdOf ByteArray.empty x15 x17, true)) else (spec_PartAt.l0 k x0 x13 x15 (wrap64 (x17 + 1))))) else (none)) else (none)) else (if 0 ≤ (wrap64 ((x13.length : Int) - 1)) then (if (wrap64 ((x13.length : Int) - 1)) < (x13.length : Int) then ((spec_l6None.f k x0).bind fun t783 => ((spec_IsClash.f k (rdOf ByteArray.empty x13 (wrap64 ((x13.length : Int) - 1))) t783 32).bind fun t784 => (some (rdOf ByteArray.empty x13 (wrap64 ((x13.length : Int) - 1)), t783, t784)))) else (none)) else (none))
end
def spec_PartAt.f (k : Nat) (l0 : List (S26)) (a1_0 : ByteArray) (a1_1 : ByteArray) (a2 : Int) (a3 : Int) (l4 : List ByteArray) : Option (ByteArray × ByteArray × Bool) := (spec_PairsOk.f k l0).bind fun t756 => (if t756 = true then ((spec_l1In.f a3 1 60).bind fun t757 => (if t757 = true then ((spec_l1In.f a2 0 (wrap64 (a3 - 1))).bind fun t758 => (spec_PartAt.j0 k l0 a2 a3 l4 (!t758) a1_0 a1_1)) else (spec_PartAt.j0 k l0 a2 a3 l4 true a1_0 a1_1))) else (spec_PartAt.j0 k l0 a2 a3 l4 true a1_0 a1_1))
def spec_PartAt.T11 : Bool × List (List Nat × List Nat) := (true, [([], []), ([], []), ([0, 1], [0, 1]), ([2], [2]), ([], []), ([], []), ([4, 5], [4, 5]), ([6], [6]), ([3, 7], [3, 7])])
def spec_PartAt.B11 : List Nat := [0, 0, 3, 7, 0, 0, 48, 112, 255]
theorem spec_PartAt.tab11 : rtab .any (opsOf Try.f10 11) = spec_PartAt.T11 := by kernel_rfl
theorem spec_PartAt.bits11 : waitsOk spec_PartAt.T11.2 spec_PartAt.B11 = true := by kernel_rfl
def spec_PartAt.T12 : Bool × List (List Nat × List Nat) := (true, [([], []), ([], []), ([0, 1], [0, 1]), ([2], [2]), ([], []), ([], []), ([4, 5], [4, 5]), ([6], [6]), ([3, 0, 1, 2, 3], [3]), ([7, 8, 0, 1, 2, 3, 4, 5, 6, 7, 8], [7]), ([9, 0, 1, 2, 3, 4, 5, 6, 7, 8, 9], [])])
def spec_PartAt.B12 : List Nat := [0, 0, 3, 7, 0, 0, 48, 112, 15, 511, 1023]
theorem spec_PartAt.tab12 : rtab .any (opsOf Try.f10 12) = spec_PartAt.T12 := by kernel_rfl
theorem spec_PartAt.bits12 : waitsOk spec_PartAt.T12.2 spec_PartAt.B12 = true := by kernel_rfl
set_option maxHeartbeats 8000000 in
set_option maxRecDepth 100000 in
theorem spec_PartAt.calls (k : Nat) (A0 : Option Addr) (c0 : Nat) (l0 : List (S26)) (a1_0 : ByteArray) (a1_1 : ByteArray) (a2 : Int) (a3 : Int) (A4 : Option Addr) (c4 : Nat) (l4 : List ByteArray) (r1 : ByteArray) (r2 : ByteArray) (r3 : Bool) (w : World) (hr0 : Kd.C k26 w A0 l0.length l0) (hc0 : l0.length ≤ c0) (hr4 : Kd.C Kd.string w A4 l4.length l4) (hc4 : l4.length ≤ c4) (h : spec_PartAt.f k l0 a1_0 a1_1 a2 a3 l4 = some (r1, r2, r3)) :
  Calls Try.prog 10 #[.slice A0 l0.length c0, .agg #[.string a1_0, .string a1_1], .int .i64 a2, .int .i64 a3, .slice A4 l4.length c4] w fun e w' => e = .returned (.tuple #[.string r1, .string r2, .bool r3]) ∧ Below w.heap.size w w' := by
  have hu26 := Try.underlying26
  have HR0 := Aside0.mk hr0
  have HC0 := Aside0.mk hc0
  clear hr0 hc0
  have HR4 := Aside0.mk hr4
  have HC4 := Aside0.mk hc4
  clear hr4 hc4
  have HB := q_ (Below.refl w.heap.size w)
  have H := h
  clear h
  unfold spec_PartAt.f at H
  have HC6 := Aside0.mk H
  clear H
  go_enter Try.func10, Try.ntmps10
  go_upto_region 1 with (first | ((with_reducible refine gate_dst (N := 6) rfl ?_); refine box_event rfl (N := 6) rfl (cs := #[.string a1_0, .string a1_1]) (t := 26) hr_ ?_; intro gb755 hg w7 hbox hb; have BK755 := q_ (hbox); have GW755 := q_ ((by rw [hg]; exact (below_size (be_ HB.out)) : w.heap.size ≤ gb755)); have GE755 := q_ ((by rw [hg]; exact (below_size (be_ HB.out)) : w.heap.size ≤ gb755)); replace HB := q_ (below_step (be_ HB.out) hb); clear hb hbox hg))
  (try simp only [Act.put, sa_, sz_, ss_])
  go_cut [34] (fun v34 wc => ∃ (kq : Nat) (x34_5 : Bool), v34 = .bool x34_5 ∧ Aside0 (spec_PartAt.j0 kq l0 a2 a3 l4 x34_5 a1_0 a1_1 = some (r1, r2, r3)) ∧ Aside0 (kq ≤ k) ∧ Aside0 (wc.heap[gb755]? = some (.cells #[.string a1_0, .string a1_1] 26 (0, 0))) ∧ Aside0 (Below w.heap.size w wc))
  case first =>
   have H := HC6.out
   clear HC6
   obtain ⟨t756, A8, H⟩ := bo_ H
   by_cases c9 : t756 = true
   rotate_left
   · replace c9 := Bool.eq_false_iff.mpr c9
     subst c9
     rw [if_neg (show ¬ (false = true) by decide)] at H
     have H' := Aside0.mk H
     clear H
     go_wp2_with (first | ((with_reducible refine gate_callee (f := 12) rfl ?_); refine gl_ (some 21) Try.func12 #[.slice A0 l0.length c0] rfl al_ ?_; (with_reducible refine (spec_PairsOk.calls k _ _ l0 false _ ?side1 ?side2 A8.out).mono ?_); (case side1 => exact kc_ (Kd.C_below HR0.out HB.out)); (case side2 => exact HC0.out); rintro e w15 ⟨rfl, hb⟩; refine ⟨_, rfl, ?_⟩; replace BK755 := q_ (bb_ BK755.out hb); replace HB := q_ (below_step (bs_ HB.out GE755.out) hb); (try clear hb)))
     go_meet
     case rel => exact ⟨_, (true), rs_, H', ⟨by first | omega | exact Nat.le_refl _⟩, ⟨by (with_reducible repeat (first | refine blk_drewN ?_ _ | refine blk_drew ?_ | refine blk_alloc ?_ _)); exact BK755.out⟩, ⟨bs_ HB.out GE755.out⟩⟩
   subst c9
   rw [if_pos rfl] at H
   obtain ⟨t757, A10, H⟩ := bo_ H
   by_cases c11 : t757 = true
   rotate_left
   · replace c11 := Bool.eq_false_iff.mpr c11
     subst c11
     rw [if_neg (show ¬ (false = true) by decide)] at H
     have H' := Aside0.mk H
     clear H
     go_wp2_with (first | ((with_reducible refine gate_callee (f := 12) rfl ?_); refine gl_ (some 21) Try.func12 #[.slice A0 l0.length c0] rfl al_ ?_; (with_reducible refine (spec_PairsOk.calls k _ _ l0 true _ ?side1 ?side2 A8.out).mono ?_); (case side1 => exact kc_ (Kd.C_below HR0.out HB.out)); (case side2 => exact HC0.out); rintro e w14 ⟨rfl, hb⟩; refine ⟨_, rfl, ?_⟩; replace BK755 := q_ (bb_ BK755.out hb); replace HB := q_ (below_step (bs_ HB.out GE755.out) hb); (try clear hb)) | (go_at_call 47; (with_reducible refine (spec_l1In.calls a3 1 60 false _ A10.out).mono ?_); rintro e w' ⟨rfl, ⟨nd, rfl⟩⟩))
     go_meet
     case rel => exact ⟨_, (true), rs_, H', ⟨by first | omega | exact Nat.le_refl _⟩, ⟨by (with_reducible repeat (first | refine blk_drewN ?_ _ | refine blk_drew ?_ | refine blk_alloc ?_ _)); exact BK755.out⟩, ⟨bs_ HB.out GE755.out⟩⟩
   subst c11
   rw [if_pos rfl] at H
   obtain ⟨t758, A12, H⟩ := bo_ H
   have H' := Aside0.mk H
   clear H
   go_wp2_with (first | ((with_reducible refine gate_callee (f := 12) rfl ?_); refine gl_ (some 21) Try.func12 #[.slice A0 l0.length c0] rfl al_ ?_; (with_reducible refine (spec_PairsOk.calls k _ _ l0 true _ ?side1 ?side2 A8.out).mono ?_); (case side1 => exact kc_ (Kd.C_below HR0.out HB.out)); (case side2 => exact HC0.out); rintro e w13 ⟨rfl, hb⟩; refine ⟨_, rfl, ?_⟩; replace BK755 := q_ (bb_ BK755.out hb); replace HB := q_ (below_step (bs_ HB.out GE755.out) hb); (try clear hb)) | (go_at_call 47; (with_reducible refine (spec_l1In.calls a3 1 60 true _ A10.out).mono ?_); rintro e w' ⟨rfl, ⟨nd, rfl⟩⟩) | (go_at_call 47; (with_reducible refine (spec_l1In.calls a2 0 (wrap64 (a3 - 1)) t758 _ A12.out).mono ?_); rintro e w' ⟨rfl, ⟨nd, rfl⟩⟩))
   go_meet
   case rel => exact ⟨_, (!t758), rs_, H', ⟨by first | omega | exact Nat.le_refl _⟩, ⟨by (with_reducible repeat (first | refine blk_drewN ?_ _ | refine blk_drew ?_ | refine blk_alloc ?_ _)); exact BK755.out⟩, ⟨bs_ HB.out GE755.out⟩⟩
  case rest =>
   clear HC6
   try clear c1
   try clear p2
   try clear c4
   try clear p6
   try clear c9
   try clear c10
   try clear c11
   try clear c12
   obtain ⟨kq, x34_5, rfl, HA, HJ5, BK755, HB⟩ := hcut
   cases kq with
   | zero => exact absurd HA.out (by simp [spec_PartAt.j0])
   | succ kj5 =>
    have H := HA.out
    clear HA
    simp only [spec_PartAt.j0] at H
    by_cases c16 : x34_5 = true
    · subst c16
      rw [if_pos rfl] at H
      simp only [Option.some.injEq, Prod.mk.injEq] at H
      obtain ⟨rfl, rfl, rfl⟩ := H
      go_wp2
      go_ret3
      exact ⟨rf_, bs_ HB.out GE755.out⟩
    · replace c16 := Bool.eq_false_iff.mpr c16
      subst c16
      rw [if_neg (show ¬ (false = true) by decide)] at H
      obtain ⟨t759, A17, H⟩ := bo_ H
      obtain ⟨⟨t762, t763⟩, A18, H⟩ := bo_ H; try dsimp only at H
      by_cases c19 : t763 = true
      · subst c19
        rw [if_pos rfl] at H
        by_cases c20 : (l0.length : Int) = a3
        rotate_left
        · rw [if_neg c20] at H
          have c20b0 := beq_eq_false_iff_ne.mpr c20
          have c20b1 := bne_iff_ne.mpr c20
          obtain ⟨ji57, hji57⟩ : ∃ j_ : Int, (wrap64 ((t762.length : Int) - 1)) = j_ := ⟨_, rfl⟩
          replace H : (if 0 ≤ (ji57) then (if (ji57) < (t762.length : Int) then ((spec_l6None.f kj5 l0).bind fun t786 => ((spec_IsClash.f kj5 (rdOf ByteArray.empty t762 (ji57)) t786 32).bind fun t787 => (some (rdOf ByteArray.empty t762 (ji57), t786, t787)))) else (none)) else (none)) = some (r1, r2, r3) := by first | (rw [hji57] at H; exact H) | (simp only [hji57] at H ⊢; exact H)
          (try rw [hji57] at A17)
          (try rw [hji57] at A18)
          have hji57w : (IntKind.i64.wrap ((t762.length : Int) - 1)) = ji57 := (i64_w _).trans hji57
          obtain ⟨c58, H⟩ := ip_ H
          have c58b0 : decide (0 ≤ (ji57)) = true := decide_eq_true c58
          clear c58
          obtain ⟨c59, H⟩ := ip_ H
          have c59b0 : decide ((ji57) < (t762.length : Int)) = true := decide_eq_true c59
          clear c59
          obtain ⟨t786, A60, H⟩ := bo_ H
          obtain ⟨t787, A61, H⟩ := bo_ H
          simp only [Option.some.injEq, Prod.mk.injEq] at H
          obtain ⟨rfl, rfl, rfl⟩ := H
          obtain ⟨hcz62_0, hcz62_1, hfz62_0, hfz62_1⟩ := bx2_ BK755.out
          go_wp2_with (first | ((with_reducible refine gate_callee (f := 49) rfl ?_); refine gl_ (some 37) Try.func49 #[.agg #[.string a1_0, .string a1_1]] rfl al_ ?_; (with_reducible refine (spec_l4Leaf.calls kj5 a1_0 a1_1 t759 _ A17.out).mono ?_); rintro e w63 ⟨v760, rfl, ho0, hb⟩; refine ⟨_, rfl, ?_⟩; have HO761 := q_ (Kd.R_lower ho0 (below_size (bs_ HB.out GE755.out))); replace BK755 := q_ (bb_ BK755.out hb); replace HB := q_ (below_step (bs_ HB.out GE755.out) hb); (try clear hb); (try clear ho0); obtain ⟨Ao64, co64, eo64⟩ := Kd.R_slice HO761.out; subst eo64) | ((with_reducible refine gate_callee (f := 48) rfl ?_); refine gl_ (some 41) Try.func48 #[.slice Ao64 t759.length co64, .int .i64 a2, .int .i64 a3, .slice A4 l4.length c4] rfl al_ ?_; (with_reducible refine (spec_l4All.calls kj5 _ _ t759 a2 a3 _ _ l4 t762 true _ ?side1 ?side2 ?side3 ?side4 A18.out).mono ?_); (case side1 => exact kc_ (Kd.R_reads' HO761.out).2.2); (case side2 => exact (Kd.R_reads' HO761.out).2.1); (case side3 => exact kc_ (Kd.C_below HR4.out HB.out)); (case side4 => exact HC4.out); rintro e w65 ⟨v764, rfl, ho0, hb⟩; refine ⟨_, rfl, ?_⟩; replace HO761 := q_ (Kd.R_below (kr_ HO761.out) hb); have HO765 := q_ (Kd.R_lower ho0 (below_size (bs_ HB.out GE755.out))); replace BK755 := q_ (bb_ BK755.out hb); replace HB := q_ (below_step (bs_ HB.out GE755.out) hb); (try clear hb); (try clear ho0); obtain ⟨Ao66, co66, eo66⟩ := Kd.R_slice HO765.out; subst eo66; have p785 : 0 ≤ ((ji57) : Int) := od_; have q785 : (ji57) < (t762.length : Int) := od_; obtain ⟨ad785, e785, hx785_0⟩ := Kd.at_string (Kd.R_reads' HO765.out).2.2 (ji57) p785 q785; cases e785; replace p785 := eq_true p785; replace q785 := eq_true q785) | ((with_reducible refine gate_callee (f := 51) rfl ?_); refine gl_ (some 94) Try.func51 #[.slice A0 l0.length c0] rfl al_ ?_; (with_reducible refine (spec_l6None.calls kj5 _ _ l0 t786 _ ?side1 ?side2 A60.out).mono ?_); (case side1 => exact kc_ (Kd.C_below HR0.out HB.out)); (case side2 => exact HC0.out); rintro e w67 ⟨rfl, hb⟩; refine ⟨_, rfl, ?_⟩; replace HO761 := q_ (Kd.R_below (kr_ HO761.out) hb); replace HO765 := q_ (Kd.R_below (kr_ HO765.out) hb); replace BK755 := q_ (bb_ BK755.out hb); replace HB := q_ (below_step (bs_ HB.out GE755.out) hb); (try clear hb)) | ((with_reducible refine gate_callee (f := 50) rfl ?_); refine gl_ (some 99) Try.func50 #[.string (rdOf ByteArray.empty t762 (ji57)), .string t786, .int .i64 32] rfl (by (try simp only [List.map_toArray, List.map_cons, List.map_nil]); first | done | (simp only [hji57]; rfl) | rfl | (simp only [List.length_drop, List.length_take]; rfl)) ?_; (with_reducible refine (spec_IsClash.calls kj5 (rdOf ByteArray.empty t762 (ji57)) t786 32 t787 _ A61.out).mono ?_); rintro e w68 ⟨rfl, hb⟩; refine ⟨_, rfl, ?_⟩; replace HO761 := q_ (Kd.R_below (kr_ HO761.out) hb); replace HO765 := q_ (Kd.R_below (kr_ HO765.out) hb); replace BK755 := q_ (bb_ BK755.out hb); replace HB := q_ (below_step (bs_ HB.out GE755.out) hb); (try clear hb)))
          go_ret3
          exact ⟨by first | rfl | (simp [errW_none, errW_some] <;> rfl) | (simp only [← hji57]; first | rfl | (simp [errW_none, errW_some] <;> rfl)) | (simp [*, errW_none, errW_some] <;> rfl), bs_ HB.out GE755.out⟩
        rw [if_pos c20] at H
        have c20b0 := beq_iff_eq.mpr c20
        have c20b1 := bne_eq_false_iff_eq.mpr c20
        clear c20
        obtain ⟨c21, H⟩ := ip_ H
        have c21b0 : decide (0 ≤ a2) = true := decide_eq_true c21
        clear c21
        obtain ⟨c22, H⟩ := ip_ H
        have c22b0 : decide (a2 < (l0.length : Int)) = true := decide_eq_true c22
        clear c22
        obtain ⟨t767, A23, H⟩ := bo_ H
        obtain ⟨t770, A24, H⟩ := bo_ H
        obtain ⟨⟨t773, t774⟩, A25, H⟩ := bo_ H; try dsimp only at H
        have H' := Aside0.mk H
        clear H
        obtain ⟨hcz26_0, hcz26_1, hfz26_0, hfz26_1⟩ := bx2_ BK755.out
        go_wp2_with (first | ((with_reducible refine gate_callee (f := 49) rfl ?_); refine gl_ (some 37) Try.func49 #[.agg #[.string a1_0, .string a1_1]] rfl al_ ?_; (with_reducible refine (spec_l4Leaf.calls kj5 a1_0 a1_1 t759 _ A17.out).mono ?_); rintro e w27 ⟨v760, rfl, ho0, hb⟩; refine ⟨_, rfl, ?_⟩; have HO761 := q_ (Kd.R_lower ho0 (below_size (bs_ HB.out GE755.out))); replace BK755 := q_ (bb_ BK755.out hb); replace HB := q_ (below_step (bs_ HB.out GE755.out) hb); (try clear hb); (try clear ho0); obtain ⟨Ao28, co28, eo28⟩ := Kd.R_slice HO761.out; subst eo28) | ((with_reducible refine gate_callee (f := 48) rfl ?_); refine gl_ (some 41) Try.func48 #[.slice Ao28 t759.length co28, .int .i64 a2, .int .i64 a3, .slice A4 l4.length c4] rfl al_ ?_; (with_reducible refine (spec_l4All.calls kj5 _ _ t759 a2 a3 _ _ l4 t762 true _ ?side1 ?side2 ?side3 ?side4 A18.out).mono ?_); (case side1 => exact kc_ (Kd.R_reads' HO761.out).2.2); (case side2 => exact (Kd.R_reads' HO761.out).2.1); (case side3 => exact kc_ (Kd.C_below HR4.out HB.out)); (case side4 => exact HC4.out); rintro e w29 ⟨v764, rfl, ho0, hb⟩; refine ⟨_, rfl, ?_⟩; replace HO761 := q_ (Kd.R_below (kr_ HO761.out) hb); have HO765 := q_ (Kd.R_lower ho0 (below_size (bs_ HB.out GE755.out))); replace BK755 := q_ (bb_ BK755.out hb); replace HB := q_ (below_step (bs_ HB.out GE755.out) hb); (try clear hb); (try clear ho0); have p766 : 0 ≤ (a2 : Int) := od_; have q766 : a2 < (l0.length : Int) := od_; obtain ⟨ad766, e766, hx766_0, hx766_1⟩ := at_T26 HR0.out a2 p766 q766; cases e766; replace hx766_0 := hc_ HB.out hx766_0; replace hx766_1 := hc_ HB.out hx766_1; replace p766 := eq_true p766; replace q766 := eq_true q766) | ((with_reducible refine gate_callee (f := 49) rfl ?_); refine gl_ (some 55) Try.func49 #[.agg #[.string ((rd_T26 l0 a2).f0), .string ((rd_T26 l0 a2).f1)]] rfl al_ ?_; (with_reducible refine (spec_l4Leaf.calls kj5 ((rd_T26 l0 a2).f0) ((rd_T26 l0 a2).f1) t767 _ A23.out).mono ?_); rintro e w30 ⟨v768, rfl, ho0, hb⟩; refine ⟨_, rfl, ?_⟩; replace HO765 := q_ (Kd.R_below (kr_ HO765.out) hb); have HO769 := q_ (Kd.R_lower (Kd.R_new' ho0 (Kd.R_lt (kr_ HO761.out))) (below_size (bs_ HB.out GE755.out))); replace HO761 := q_ (Kd.R_elder' (kr_ HO761.out) (Kd.R_base ho0) hb); replace BK755 := q_ (bb_ BK755.out hb); replace HB := q_ (below_step (bs_ HB.out GE755.out) hb); (try clear hb); (try clear ho0)) | ((with_reducible refine gate_callee (f := 36) rfl ?_); refine gl_ (some 60) Try.func36 #[.slice (some ad766) l0.length c0, .int .i64 a2] rfl al_ ?_; (with_reducible refine (spec_l4Path.calls kj5 _ _ l0 a2 t770 _ ?side1 ?side2 A24.out).mono ?_); (case side1 => exact kc_ (Kd.C_below HR0.out HB.out)); (case side2 => exact HC0.out); rintro e w31 ⟨v771, rfl, ho0, hb⟩; refine ⟨_, rfl, ?_⟩; replace HO761 := q_ (Kd.R_below (kr_ HO761.out) hb); replace HO769 := q_ (Kd.R_below (kr_ HO769.out) hb); have HO772 := q_ (Kd.R_lower (Kd.R_new' ho0 (Kd.R_lt (kr_ HO765.out))) (below_size (bs_ HB.out GE755.out))); replace HO765 := q_ (Kd.R_elder' (kr_ HO765.out) (Kd.R_base ho0) hb); replace BK755 := q_ (bb_ BK755.out hb); replace HB := q_ (below_step (bs_ HB.out GE755.out) hb); (try clear hb); (try clear ho0); obtain ⟨Ao32, co32, eo32⟩ := Kd.R_slice HO769.out; subst eo32; obtain ⟨Ao33, co33, eo33⟩ := Kd.R_slice HO772.out; subst eo33) | ((with_reducible refine gate_callee (f := 48) rfl ?_); refine gl_ (some 61) Try.func48 #[.slice Ao32 t767.length co32, .int .i64 a2, .int .i64 a3, .slice Ao33 t770.length co33] rfl al_ ?_; (with_reducible refine (spec_l4All.calls kj5 _ _ t767 a2 a3 _ _ t770 t773 t774 _ ?side1 ?side2 ?side3 ?side4 A25.out).mono ?_); (case side1 => exact kc_ (Kd.R_reads' HO769.out).2.2); (case side2 => exact (Kd.R_reads' HO769.out).2.1); (case side3 => exact kc_ (Kd.R_reads' HO772.out).2.2); (case side4 => exact (Kd.R_reads' HO772.out).2.1); rintro e w34 ⟨v775, rfl, ho0, hb⟩; refine ⟨_, rfl, ?_⟩; replace HO761 := q_ (Kd.R_below (kr_ HO761.out) hb); replace HO769 := q_ (Kd.R_below (kr_ HO769.out) hb); have HO776 := q_ (Kd.R_lower (Kd.R_new' (Kd.R_new' ho0 (Kd.R_lt (kr_ HO765.out))) (Kd.R_lt (kr_ HO772.out))) (below_size (bs_ HB.out GE755.out))); replace HO765 := q_ (Kd.R_elder' (kr_ HO765.out) (Kd.R_base ho0) hb); replace HO772 := q_ (Kd.R_elder' (kr_ HO772.out) (Kd.R_base ho0) hb); replace BK755 := q_ (bb_ BK755.out hb); replace HB := q_ (below_step (bs_ HB.out GE755.out) hb); (try clear hb); (try clear ho0)))
        go_loopg [17] kj5 (fun kq v17 w' => ∃ (x17_2 : Int), v17 = .int .i64 x17_2 ∧ Aside0 (spec_PartAt.l0 kq l0 t762 t773 x17_2 = some (r1, r2, r3)) ∧ Aside0 (kq ≤ kj5) ∧ Aside0 (Kd.R Kd.string 9 w' w.heap.size (fun k_ => some k_ ≠ (v775 : Value).ownBlock) v764 t762) ∧ Aside0 (Kd.R Kd.string 9 w' w.heap.size (fun k_ => some k_ ≠ (v764 : Value).ownBlock) v775 t773) ∧ Aside0 (w'.heap[gb755]? = some (.cells #[.string a1_0, .string a1_1] 26 (0, 0))) ∧ Aside0 (Below w.heap.size w w'))
        case atStart => exact ⟨(0), rs_, H', ⟨Nat.le_refl _⟩, ⟨by (with_reducible repeat (first | apply Kd.R_alloc | apply Kd.R_drewN | apply Kd.R_drew)); exact Kd.R_mono HO765.out (fun _ hk => hk.2)⟩, ⟨by (with_reducible repeat (first | apply Kd.R_alloc | apply Kd.R_drewN | apply Kd.R_drew)); exact Kd.R_mono HO776.out (fun _ hk => hk.1.2)⟩, ⟨by (with_reducible repeat (first | refine blk_drewN ?_ _ | refine blk_drew ?_ | refine blk_alloc ?_ _)); exact BK755.out⟩, ⟨bs_ HB.out GE755.out⟩⟩
        case round =>
         clear H'
         try clear c1
         try clear c2
         try clear p2
         try clear c3
         try clear c4
         try clear p6
         try clear p7
         try clear q7
         try clear hx7
         try clear c9
         try clear c10
         try clear c11
         try clear c12
         try clear c16
         try clear c19
         try clear c20
         try clear c20b0
         try clear c20b1
         try clear c21
         try clear c21b0
         try clear c22
         try clear c22b0
         try clear hcz26_0
         try clear hcz26_1
         try clear hfz26_0
         try clear hfz26_1
         try clear hx766_0
         try clear hx766_1
         try clear p2
         try clear p6
         try clear p766
         try clear q766
         obtain ⟨x17_2, rfl, HA, HK2, HO_13, HO_15, BK755, HB⟩ := hrel
         cases gk with
         | zero => exact absurd HA.out (by simp [spec_PartAt.l0])
         | succ k2 =>
          have H := HA.out
          clear HA
          simp only [spec_PartAt.l0] at H
          by_cases c35 : x17_2 < (t762.length : Int)
          rotate_left
          · rw [if_neg c35] at H
            have c35b0 := decide_eq_false c35
            clear c35
            obtain ⟨ji49, hji49⟩ : ∃ j_ : Int, (wrap64 ((t762.length : Int) - 1)) = j_ := ⟨_, rfl⟩
            replace H : (if 0 ≤ (ji49) then (if (ji49) < (t762.length : Int) then ((spec_l6None.f k2 l0).bind fun t783 => ((spec_IsClash.f k2 (rdOf ByteArray.empty t762 (ji49)) t783 32).bind fun t784 => (some (rdOf ByteArray.empty t762 (ji49), t783, t784)))) else (none)) else (none)) = some (r1, r2, r3) := by first | (rw [hji49] at H; exact H) | (simp only [hji49] at H ⊢; exact H)
            have hji49w : (IntKind.i64.wrap ((t762.length : Int) - 1)) = ji49 := (i64_w _).trans hji49
            obtain ⟨c50, H⟩ := ip_ H
            have c50b0 : decide (0 ≤ (ji49)) = true := decide_eq_true c50
            clear c50
            obtain ⟨c51, H⟩ := ip_ H
            have c51b0 : decide ((ji49) < (t762.length : Int)) = true := decide_eq_true c51
            clear c51
            obtain ⟨t783, A52, H⟩ := bo_ H
            obtain ⟨t784, A53, H⟩ := bo_ H
            simp only [Option.some.injEq, Prod.mk.injEq] at H
            obtain ⟨rfl, rfl, rfl⟩ := H
            obtain ⟨Ao54, co54, eo54⟩ := Kd.R_slice HO_13.out
            subst eo54
            have p782 : 0 ≤ ((ji49) : Int) := od_
            have q782 : (ji49) < (t762.length : Int) := od_
            obtain ⟨ad782, e782, hx782_0⟩ := Kd.at_string (Kd.R_reads' HO_13.out).2.2 (ji49) p782 q782
            cases e782
            replace p782 := eq_true p782
            replace q782 := eq_true q782
            go_wp2_with (first | ((with_reducible refine gate_callee (f := 51) rfl ?_); refine gl_ (some 94) Try.func51 #[.slice (some ad766) l0.length c0] rfl al_ ?_; (with_reducible refine (spec_l6None.calls k2 _ _ l0 t783 _ ?side1 ?side2 A52.out).mono ?_); (case side1 => exact kc_ (Kd.C_below HR0.out HB.out)); (case side2 => exact HC0.out); rintro e w55 ⟨rfl, hb⟩; refine ⟨_, rfl, ?_⟩; replace HO_13 := q_ (Kd.R_below (kr_ HO_13.out) hb); replace HO_15 := q_ (Kd.R_below (kr_ HO_15.out) hb); replace BK755 := q_ (bb_ BK755.out hb); replace HB := q_ (below_step (bs_ HB.out GE755.out) hb); (try clear hb)) | ((with_reducible refine gate_callee (f := 50) rfl ?_); refine gl_ (some 99) Try.func50 #[.string (rdOf ByteArray.empty t762 (ji49)), .string t783, .int .i64 32] rfl (by (try simp only [List.map_toArray, List.map_cons, List.map_nil]); first | done | (simp only [hji49]; rfl) | rfl | (simp only [List.length_drop, List.length_take]; rfl)) ?_; (with_reducible refine (spec_IsClash.calls k2 (rdOf ByteArray.empty t762 (ji49)) t783 32 t784 _ A53.out).mono ?_); rintro e w56 ⟨rfl, hb⟩; refine ⟨_, rfl, ?_⟩; replace HO_13 := q_ (Kd.R_below (kr_ HO_13.out) hb); replace HO_15 := q_ (Kd.R_below (kr_ HO_15.out) hb); replace BK755 := q_ (bb_ BK755.out hb); replace HB := q_ (below_step (bs_ HB.out GE755.out) hb); (try clear hb)))
            go_ret3
            exact ⟨by first | rfl | (simp [errW_none, errW_some] <;> rfl) | (simp only [← hji49]; first | rfl | (simp [errW_none, errW_some] <;> rfl)) | (simp [*, errW_none, errW_some] <;> rfl), bs_ HB.out GE755.out⟩
          rw [if_pos c35] at H
          have c35b0 := decide_eq_true c35
          clear c35
          obtain ⟨c36, H⟩ := ip_ H
          have c36b0 : decide (0 ≤ x17_2) = true := decide_eq_true c36
          clear c36
          obtain ⟨c37, H⟩ := ip_ H
          have c37b0 : decide (x17_2 < (t773.length : Int)) = true := decide_eq_true c37
          clear c37
          obtain ⟨t779, A38, H⟩ := bo_ H
          by_cases c39 : t779 = true
          rotate_left
          · replace c39 := Bool.eq_false_iff.mpr c39
            subst c39
            rw [if_neg (show ¬ (false = true) by decide)] at H
            have H' := Aside0.mk H
            clear H
            obtain ⟨Ao45, co45, eo45⟩ := Kd.R_slice HO_13.out
            subst eo45
            try go_wp2
            replace HO_13 := q_ (Kd.R_drew HO_13.out)
            replace HO_15 := q_ (Kd.R_drew HO_15.out)
            replace BK755 := q_ (blk_drew BK755.out)
            replace HB := q_ (below_drew1 HB.out)
            have p777 : 0 ≤ (x17_2 : Int) := od_
            have q777 : x17_2 < (t762.length : Int) := od_
            obtain ⟨ad777, e777, hx777_0⟩ := Kd.at_string (Kd.R_reads' HO_13.out).2.2 x17_2 p777 q777
            cases e777
            replace p777 := eq_true p777
            replace q777 := eq_true q777
            obtain ⟨Ao47, co47, eo47⟩ := Kd.R_slice HO_15.out
            (first | subst eo47 | (injection eo47 with f1_ f2_ f3_; have f4_ := f1_.symm; have f5_ := f3_.symm; clear f1_ f2_ f3_; subst f4_; subst f5_))
            have p778 : 0 ≤ (x17_2 : Int) := od_
            have q778 : x17_2 < (t773.length : Int) := od_
            obtain ⟨ad778, e778, hx778_0⟩ := Kd.at_string (Kd.R_reads' HO_15.out).2.2 x17_2 p778 q778
            cases e778
            replace p778 := eq_true p778
            replace q778 := eq_true q778
            refine start_ (n := 9) (S := fun w' => w'.cell? (ad777.add (x17_2).toNat) = some (.string (rdOf ByteArray.empty t762 x17_2)) ∧ w'.cell? (ad778.add (x17_2).toNat) = some (.string (rdOf ByteArray.empty t773 x17_2))) (ds := []) (bq_ 0 9) (by kernel_rfl) rfl rfl ⟨hx777_0, hx778_0⟩ (fun hHeld => ?_); refine with_tabW spec_PartAt.tab11 spec_PartAt.bits11 (fun HT_ HW_ => ?_)
            generalize wr.drew = w46 at HO_13 HO_15 BK755 HB hx777_0 hx778_0 hHeld ⊢
            refine p_ 0 70 HT_ ?_; refine p_ 1 71 HT_ ?_; refine p_ 2 72 HT_ ?_; refine p_ 4 74 HT_ ?_; refine p_ 5 75 HT_ ?_; refine p_ 6 76 HT_ ?_; refine k_ 3 73 HT_ HW_ hHeld ?_; refine k_ 7 77 HT_ HW_ hHeld ?_
            refine oc_ 8 78 (bq_ 9 0) HT_ Try.func50 #[.string (rdOf ByteArray.empty t762 x17_2), .string (rdOf ByteArray.empty t773 x17_2), .int .i64 32] ?_
            with_reducible refine (spec_IsClash.calls k2 (rdOf ByteArray.empty t762 x17_2) (rdOf ByteArray.empty t773 x17_2) 32 false _ A38.out).mono ?_
            rintro e w48 ⟨rfl, hb⟩
            have HS0_ := (hb.cell (World.block_lt_of_cell? _ _ (hHeld.1))).trans (hHeld.1)
            have HS1_ := (hb.cell (World.block_lt_of_cell? _ _ (hHeld.2))).trans (hHeld.2)
            refine ⟨_, rfl, ?_⟩
            replace HO_13 := q_ (Kd.R_below (kr_ HO_13.out) hb)
            replace HO_15 := q_ (Kd.R_below (kr_ HO_15.out) hb)
            replace BK755 := q_ (bb_ BK755.out hb)
            replace HB := q_ (below_step (bs_ HB.out GE755.out) hb)
            (try clear hb)
            (try clear hb2)
            (try clear hk)
            (try clear hi)
            refine ⟨⟨HS0_, HS1_⟩, fun hHeld => nm_ ?_⟩
            refine done_ (done_of HT_.out (by kernel_rfl)) ?_
            try go_wp2
            go_roundg k2
            case measure => have := HJ5.out; have := HK2.out; omega
            case rel => exact ⟨(wrap64 (x17_2 + 1)), rs_, H', ⟨by have := HJ5.out; have := HK2.out; omega⟩, ⟨by (with_reducible repeat (first | apply Kd.R_alloc | apply Kd.R_drewN | apply Kd.R_drew)); exact HO_13.out⟩, ⟨by (with_reducible repeat (first | apply Kd.R_alloc | apply Kd.R_drewN | apply Kd.R_drew)); exact HO_15.out⟩, ⟨by (with_reducible repeat (first | refine blk_drewN ?_ _ | refine blk_drew ?_ | refine blk_alloc ?_ _)); exact BK755.out⟩, ⟨bs_ HB.out GE755.out⟩⟩
          subst c39
          rw [if_pos rfl] at H
          simp only [Option.some.injEq, Prod.mk.injEq] at H
          obtain ⟨rfl, rfl, rfl⟩ := H
          obtain ⟨Ao40, co40, eo40⟩ := Kd.R_slice HO_13.out
          subst eo40
          try go_wp2
          replace HO_13 := q_ (Kd.R_drew HO_13.out)
          replace HO_15 := q_ (Kd.R_drew HO_15.out)
          replace BK755 := q_ (blk_drew BK755.out)
          replace HB := q_ (below_drew1 HB.out)
          have p777 : 0 ≤ (x17_2 : Int) := od_
          have q777 : x17_2 < (t762.length : Int) := od_
          obtain ⟨ad777, e777, hx777_0⟩ := Kd.at_string (Kd.R_reads' HO_13.out).2.2 x17_2 p777 q777
          cases e777
          replace p777 := eq_true p777
          replace q777 := eq_true q777
          obtain ⟨Ao42, co42, eo42⟩ := Kd.R_slice HO_15.out
          (first | subst eo42 | (injection eo42 with f1_ f2_ f3_; have f4_ := f1_.symm; have f5_ := f3_.symm; clear f1_ f2_ f3_; subst f4_; subst f5_))
          have p778 : 0 ≤ (x17_2 : Int) := od_
          have q778 : x17_2 < (t773.length : Int) := od_
          obtain ⟨ad778, e778, hx778_0⟩ := Kd.at_string (Kd.R_reads' HO_15.out).2.2 x17_2 p778 q778
          cases e778
          replace p778 := eq_true p778
          replace q778 := eq_true q778
          refine start_ (n := 9) (S := fun w' => w'.cell? (ad777.add (x17_2).toNat) = some (.string (rdOf ByteArray.empty t762 x17_2)) ∧ w'.cell? (ad778.add (x17_2).toNat) = some (.string (rdOf ByteArray.empty t773 x17_2))) (ds := []) (bq_ 0 9) (by kernel_rfl) rfl rfl ⟨hx777_0, hx778_0⟩ (fun hHeld => ?_); refine with_tabW spec_PartAt.tab11 spec_PartAt.bits11 (fun HT_ HW_ => ?_)
          generalize wr.drew = w41 at HO_13 HO_15 BK755 HB hx777_0 hx778_0 hHeld ⊢
          refine p_ 0 70 HT_ ?_; refine p_ 1 71 HT_ ?_; refine p_ 2 72 HT_ ?_; refine p_ 4 74 HT_ ?_; refine p_ 5 75 HT_ ?_; refine p_ 6 76 HT_ ?_; refine k_ 3 73 HT_ HW_ hHeld ?_; refine k_ 7 77 HT_ HW_ hHeld ?_
          refine oc_ 8 78 (bq_ 9 0) HT_ Try.func50 #[.string (rdOf ByteArray.empty t762 x17_2), .string (rdOf ByteArray.empty t773 x17_2), .int .i64 32] ?_
          with_reducible refine (spec_IsClash.calls k2 (rdOf ByteArray.empty t762 x17_2) (rdOf ByteArray.empty t773 x17_2) 32 true _ A38.out).mono ?_
          rintro e w43 ⟨rfl, hb⟩
          have HS0_ := (hb.cell (World.block_lt_of_cell? _ _ (hHeld.1))).trans (hHeld.1)
          have HS1_ := (hb.cell (World.block_lt_of_cell? _ _ (hHeld.2))).trans (hHeld.2)
          refine ⟨_, rfl, ?_⟩
          replace HO_13 := q_ (Kd.R_below (kr_ HO_13.out) hb)
          replace HO_15 := q_ (Kd.R_below (kr_ HO_15.out) hb)
          replace BK755 := q_ (bb_ BK755.out hb)
          replace HB := q_ (below_step (bs_ HB.out GE755.out) hb)
          (try clear hb)
          (try clear hb2)
          (try clear hk)
          (try clear hi)
          refine ⟨⟨HS0_, HS1_⟩, fun hHeld => nm_ ?_⟩
          refine done_ (done_of HT_.out (by kernel_rfl)) ?_
          try go_wp2
          replace HO_13 := q_ (Kd.R_drew HO_13.out)
          replace HO_15 := q_ (Kd.R_drew HO_15.out)
          replace BK755 := q_ (blk_drew BK755.out)
          replace HB := q_ (below_drew1 HB.out)
          have p780 : 0 ≤ (x17_2 : Int) := od_
          have q780 : x17_2 < (t762.length : Int) := od_
          obtain ⟨ad780, e780, hx780_0⟩ := Kd.at_string (Kd.R_reads' HO_13.out).2.2 x17_2 p780 q780
          obtain rfl : ad777 = ad780 := (by injection e780)
          replace p780 := eq_true p780
          replace q780 := eq_true q780
          have p781 : 0 ≤ (x17_2 : Int) := od_
          have q781 : x17_2 < (t773.length : Int) := od_
          obtain ⟨ad781, e781, hx781_0⟩ := Kd.at_string (Kd.R_reads' HO_15.out).2.2 x17_2 p781 q781
          obtain rfl : ad778 = ad781 := (by injection e781)
          replace p781 := eq_true p781
          replace q781 := eq_true q781
          refine start_ (n := 11) (S := fun w' => w'.cell? (ad777.add (x17_2).toNat) = some (.string (rdOf ByteArray.empty t762 x17_2)) ∧ w'.cell? (ad778.add (x17_2).toNat) = some (.string (rdOf ByteArray.empty t773 x17_2))) (ds := []) (bq_ 0 11) (by kernel_rfl) rfl rfl ⟨hx780_0, hx781_0⟩ (fun hHeld => ?_); refine with_tabW spec_PartAt.tab12 spec_PartAt.bits12 (fun HT_ HW_ => ?_)
          generalize w43.drew = w44 at HO_13 HO_15 BK755 HB hx780_0 hx781_0 hHeld ⊢
          refine p_ 0 79 HT_ ?_; refine p_ 1 80 HT_ ?_; refine p_ 2 81 HT_ ?_; refine p_ 4 83 HT_ ?_; refine p_ 5 84 HT_ ?_; refine p_ 6 85 HT_ ?_; refine k_ 3 82 HT_ HW_ hHeld ?_; refine p_ 8 10 HT_ ?_; refine k_ 7 86 HT_ HW_ hHeld ?_; refine p_ 9 11 HT_ ?_; refine p_ 10 12 HT_ ?_
          refine done_ (done_of HT_.out (by kernel_rfl)) ?_
          try go_wp2
          go_ret3
          exact ⟨rf_, bs_ HB.out GE755.out⟩
      · replace c19 := Bool.eq_false_iff.mpr c19
        subst c19
        rw [if_neg (show ¬ (false = true) by decide)] at H
        simp only [Option.some.injEq, Prod.mk.injEq] at H
        obtain ⟨rfl, rfl, rfl⟩ := H
        obtain ⟨hcz69_0, hcz69_1, hfz69_0, hfz69_1⟩ := bx2_ BK755.out
        go_wp2_with (first | ((with_reducible refine gate_callee (f := 49) rfl ?_); refine gl_ (some 37) Try.func49 #[.agg #[.string a1_0, .string a1_1]] rfl al_ ?_; (with_reducible refine (spec_l4Leaf.calls kj5 a1_0 a1_1 t759 _ A17.out).mono ?_); rintro e w70 ⟨v760, rfl, ho0, hb⟩; refine ⟨_, rfl, ?_⟩; have HO761 := q_ (Kd.R_lower ho0 (below_size (bs_ HB.out GE755.out))); replace BK755 := q_ (bb_ BK755.out hb); replace HB := q_ (below_step (bs_ HB.out GE755.out) hb); (try clear hb); (try clear ho0); obtain ⟨Ao71, co71, eo71⟩ := Kd.R_slice HO761.out; subst eo71) | ((with_reducible refine gate_callee (f := 48) rfl ?_); refine gl_ (some 41) Try.func48 #[.slice Ao71 t759.length co71, .int .i64 a2, .int .i64 a3, .slice A4 l4.length c4] rfl al_ ?_; (with_reducible refine (spec_l4All.calls kj5 _ _ t759 a2 a3 _ _ l4 t762 false _ ?side1 ?side2 ?side3 ?side4 A18.out).mono ?_); (case side1 => exact kc_ (Kd.R_reads' HO761.out).2.2); (case side2 => exact (Kd.R_reads' HO761.out).2.1); (case side3 => exact kc_ (Kd.C_below HR4.out HB.out)); (case side4 => exact HC4.out); rintro e w72 ⟨v764, rfl, ho0, hb⟩; refine ⟨_, rfl, ?_⟩; replace HO761 := q_ (Kd.R_below (kr_ HO761.out) hb); have HO765 := q_ (Kd.R_lower ho0 (below_size (bs_ HB.out GE755.out))); replace BK755 := q_ (bb_ BK755.out hb); replace HB := q_ (below_step (bs_ HB.out GE755.out) hb); (try clear hb); (try clear ho0)))
        go_ret3
        exact ⟨rf_, bs_ HB.out GE755.out⟩

/-! ###  impl_CheckPath: function 13 -/
def impl_CheckPath.f (k : Nat) (a0_0 : ByteArray) (a0_1 : ByteArray) (a1 : Int) (a2 : Int) (l3 : List ByteArray) (a4 : ByteArray) : Option (Bool) := (impl_isPlace.f a1 a2).bind fun t789 => (if t789 = true then ((impl_wayTo.f k a0_0 a0_1 a1 a2 l3).bind fun bt790 => (if bt790.2 = true then (if 0 ≤ (wrap64 ((bt790.1.length : Int) - 1)) then (if (wrap64 ((bt790.1.length : Int) - 1)) < (bt790.1.length : Int) then ((impl_Digest.f k (rd_L4 bt790.1 (wrap64 ((bt790.1.length : Int) - 1)))).bind fun t795 => (some (t795.toList == a4.toList))) else (none)) else (none)) else (some false))) else (some false))
set_option maxHeartbeats 8000000 in
set_option maxRecDepth 100000 in
theorem impl_CheckPath.calls (k : Nat) (a0_0 : ByteArray) (a0_1 : ByteArray) (a1 : Int) (a2 : Int) (A3 : Option Addr) (c3 : Nat) (l3 : List ByteArray) (a4 : ByteArray) (r : Bool) (w : World) (hr3 : Kd.C Kd.string w A3 l3.length l3) (hc3 : l3.length ≤ c3) (h : impl_CheckPath.f k a0_0 a0_1 a1 a2 l3 a4 = some r) :
  Calls Try.prog 13 #[.agg #[.string a0_0, .string a0_1], .int .i64 a1, .int .i64 a2, .slice A3 l3.length c3, .string a4] w fun e w' => e = .returned (.bool r) ∧ Below w.heap.size w w' := by
  have hu26 := Try.underlying26
  have HR3 := Aside0.mk hr3
  have HC3 := Aside0.mk hc3
  clear hr3 hc3
  have HB := q_ (Below.refl w.heap.size w)
  have H := h
  clear h
  unfold impl_CheckPath.f at H
  obtain ⟨t789, A6, H⟩ := bo_ H
  by_cases c7 : t789 = true
  · subst c7
    rw [if_pos rfl] at H
    obtain ⟨⟨t790, t793⟩, A8, H⟩ := bo_ H; try dsimp only at H
    by_cases c9 : t793 = true
    rotate_left
    · replace c9 := Bool.eq_false_iff.mpr c9
      subst c9
      rw [if_neg (show ¬ (false = true) by decide)] at H
      obtain rfl := Option.some.inj H
      go_enter Try.func13, Try.ntmps13
      go_wp2_with (first | ((with_reducible refine gate_dst (N := 5) rfl ?_); (try (refine gate_guard (by rfl) ?_; dsimp only)); refine box_event rfl (N := 5) rfl (cs := #[.string a0_0, .string a0_1]) (t := 26) hr_ ?_; intro gb788 hg w19 hbox hb; have BK788 := q_ (hbox); have GW788 := q_ ((by rw [hg]; exact (below_size (be_ HB.out)) : w.heap.size ≤ gb788)); have GE788 := q_ ((by rw [hg]; exact (below_size (be_ HB.out)) : w.heap.size ≤ gb788)); replace HB := q_ (below_step (be_ HB.out) hb); clear hb hbox hg) | ((with_reducible refine gate_callee (f := 40) rfl ?_); refine gl_ (some 15) Try.func40 #[.int .i64 a1, .int .i64 a2] rfl al_ ?_; (with_reducible refine (impl_isPlace.calls a1 a2 true _ A6.out).mono ?_); rintro e w' ⟨rfl, ⟨nd, rfl⟩⟩; refine ⟨_, rfl, ?_⟩; obtain ⟨hcz20_0, hcz20_1, hfz20_0, hfz20_1⟩ := bx2_ BK788.out) | ((with_reducible refine gate_callee (f := 42) rfl ?_); refine gl_ (some 22) Try.func42 #[.agg #[.string a0_0, .string a0_1], .int .i64 a1, .int .i64 a2, .slice A3 l3.length c3] rfl al_ ?_; (with_reducible refine (impl_wayTo.calls k a0_0 a0_1 a1 a2 _ _ l3 t790 false _ ?side1 ?side2 A8.out).mono ?_); (case side1 => repeat (first | exact (Kd.C_below HR3.out (bs_ HB.out GE788.out)) | (with_reducible refine Kd.C_alloc ?_ _) | (with_reducible refine Kd.C_drewN ?_ _) | (with_reducible refine Kd.C_drew ?_))); (case side2 => exact HC3.out); rintro e w21 ⟨v791, rfl, ho0, hb⟩; refine ⟨_, rfl, ?_⟩; have HO792 := q_ (Kd.N_lower (Kd.N_mono (ok' := fun k_ => k_ ≠ gb788) ho0 (fun k_ hk_ => (Kd.freshB (g := gb788) (o := .cells #[.string a0_0, .string a0_1] 26 (0, 0)) (bk_ BK788.out) k_ hk_))) (below_size (bs_ HB.out GE788.out))); replace BK788 := q_ (bb_ BK788.out hb); replace HB := q_ (below_step (bs_ HB.out GE788.out) hb); (try clear hb); (try clear ho0)))
      go_ret
      exact ⟨rf_, bs_ HB.out GE788.out⟩
    subst c9
    rw [if_pos rfl] at H
    obtain ⟨ji10, hji10⟩ : ∃ j_ : Int, (wrap64 ((t790.length : Int) - 1)) = j_ := ⟨_, rfl⟩
    replace H : (if 0 ≤ (ji10) then (if (ji10) < (t790.length : Int) then ((impl_Digest.f k (rd_L4 t790 (ji10))).bind fun t795 => (some (t795.toList == a4.toList))) else (none)) else (none)) = some r := by first | (rw [hji10] at H; exact H) | (simp only [hji10] at H ⊢; exact H)
    (try rw [hji10] at A6)
    (try rw [hji10] at A8)
    have hji10w : (IntKind.i64.wrap ((t790.length : Int) - 1)) = ji10 := (i64_w _).trans hji10
    obtain ⟨c11, H⟩ := ip_ H
    have c11b0 : decide (0 ≤ (ji10)) = true := decide_eq_true c11
    clear c11
    obtain ⟨c12, H⟩ := ip_ H
    have c12b0 : decide ((ji10) < (t790.length : Int)) = true := decide_eq_true c12
    clear c12
    obtain ⟨t795, A13, H⟩ := bo_ H
    obtain rfl := Option.some.inj H
    go_enter Try.func13, Try.ntmps13
    go_wp2_with (first | ((with_reducible refine gate_dst (N := 5) rfl ?_); (try (refine gate_guard (by rfl) ?_; dsimp only)); refine box_event rfl (N := 5) rfl (cs := #[.string a0_0, .string a0_1]) (t := 26) hr_ ?_; intro gb788 hg w14 hbox hb; have BK788 := q_ (hbox); have GW788 := q_ ((by rw [hg]; exact (below_size (be_ HB.out)) : w.heap.size ≤ gb788)); have GE788 := q_ ((by rw [hg]; exact (below_size (be_ HB.out)) : w.heap.size ≤ gb788)); replace HB := q_ (below_step (be_ HB.out) hb); clear hb hbox hg) | ((with_reducible refine gate_callee (f := 40) rfl ?_); refine gl_ (some 15) Try.func40 #[.int .i64 a1, .int .i64 a2] rfl al_ ?_; (with_reducible refine (impl_isPlace.calls a1 a2 true _ A6.out).mono ?_); rintro e w' ⟨rfl, ⟨nd, rfl⟩⟩; refine ⟨_, rfl, ?_⟩; obtain ⟨hcz15_0, hcz15_1, hfz15_0, hfz15_1⟩ := bx2_ BK788.out) | ((with_reducible refine gate_callee (f := 42) rfl ?_); refine gl_ (some 22) Try.func42 #[.agg #[.string a0_0, .string a0_1], .int .i64 a1, .int .i64 a2, .slice A3 l3.length c3] rfl al_ ?_; (with_reducible refine (impl_wayTo.calls k a0_0 a0_1 a1 a2 _ _ l3 t790 true _ ?side1 ?side2 A8.out).mono ?_); (case side1 => repeat (first | exact (Kd.C_below HR3.out (bs_ HB.out GE788.out)) | (with_reducible refine Kd.C_alloc ?_ _) | (with_reducible refine Kd.C_drewN ?_ _) | (with_reducible refine Kd.C_drew ?_))); (case side2 => exact HC3.out); rintro e w16 ⟨v791, rfl, ho0, hb⟩; refine ⟨_, rfl, ?_⟩; have HO792 := q_ (Kd.N_lower (Kd.N_mono (ok' := fun k_ => k_ ≠ gb788) ho0 (fun k_ hk_ => (Kd.freshB (g := gb788) (o := .cells #[.string a0_0, .string a0_1] 26 (0, 0)) (bk_ BK788.out) k_ hk_))) (below_size (bs_ HB.out GE788.out))); replace BK788 := q_ (bb_ BK788.out hb); replace HB := q_ (below_step (bs_ HB.out GE788.out) hb); (try clear hb); (try clear ho0); obtain ⟨Ao17, co17, eo17⟩ := Kd.N_slice HO792.out; subst eo17; have p794 : 0 ≤ ((ji10) : Int) := od_; have q794 : (ji10) < (t790.length : Int) := od_; obtain ⟨ad794, A794_0, c794_0, e794, hx794_0, hl794_0, hi794_0⟩ := at_L4 (Kd.N_reads' HO792.out).2.2 (ji10) p794 q794; cases e794; obtain ⟨ce794, hce794, hMe794, hcc794⟩ := Kd.N_get HO792.out [] (ji10) p794 (by first | exact q794 | exact od_ | (have e_ := (Kd.N_reads' HO792.out).1; omega)); obtain ⟨ua794_0, uc794_0, rfl, ul794_0, ge794_0⟩ := Kd.FK_slice_open hMe794; have hv794_0 := hcc794 0 _ rfl; rw [Nat.add_zero, show ((Kd.slice 5 (Kd.int .u8))).sz = 1 from rfl, Nat.mul_one] at hv794_0; replace hv794_0 := Option.some.inj (hv794_0.symm.trans hx794_0); injection hv794_0 with hva_ hvn_ hvc_; rw [hva_] at ge794_0; rw [hvc_] at ul794_0; have HL794_0 := q_ (show Kd.V (Kd.int .u8) 5 _ w.heap.size _ _ (rd_L4 t790 (ji10)) from Kd.V_mk ul794_0 ge794_0); clear hva_ hvn_ hvc_ ge794_0 ul794_0; clear hcc794 hce794; have HR794_0 := Aside0.mk hi794_0; have HC794_0 := Aside0.mk hl794_0; clear hi794_0 hl794_0; replace p794 := eq_true p794; replace q794 := eq_true q794) | (go_at_call 53; (with_reducible refine (impl_Digest.calls k _ _ (rd_L4 t790 (ji10)) t795 _ ?side1 ?side2 A13.out).mono ?_); (case side1 => repeat (first | exact (by repeat (first | (with_reducible exact HR794_0.out) | (with_reducible refine Kd.C_alloc ?_ _) | (with_reducible refine Kd.C_drewN ?_ _) | (with_reducible refine Kd.C_drew ?_) | exact HR794_0.out)) | (with_reducible refine Kd.C_alloc ?_ _) | (with_reducible refine Kd.C_drewN ?_ _) | (with_reducible refine Kd.C_drew ?_))); (case side2 => exact HC794_0.out); rintro e w18 ⟨rfl, hb⟩; replace HO792 := q_ (Kd.N_below (by (with_reducible repeat (first | apply Kd.N_alloc | apply Kd.N_drewN | apply Kd.N_drew)); exact HO792.out) hb); replace HL794_0 := q_ (Kd.V_below (by (with_reducible repeat (first | apply Kd.V_alloc | apply Kd.V_drewN | apply Kd.V_drew)); exact HL794_0.out) hb); replace BK788 := q_ (bb_ BK788.out hb); replace HR794_0 := q_ (Kd.C_below (by repeat (first | (with_reducible exact HR794_0.out) | (with_reducible refine Kd.C_alloc ?_ _) | (with_reducible refine Kd.C_drewN ?_ _) | (with_reducible refine Kd.C_drew ?_) | exact HR794_0.out)) hb); replace HB := q_ (below_step (bs_ HB.out GE788.out) hb); (try clear hb)))
    go_ret
    exact ⟨by first | rfl | (simp [errW_none, errW_some] <;> rfl) | (simp only [← hji10]; first | rfl | (simp [errW_none, errW_some] <;> rfl)) | (simp [*, errW_none, errW_some] <;> rfl), bs_ HB.out GE788.out⟩
  · replace c7 := Bool.eq_false_iff.mpr c7
    subst c7
    rw [if_neg (show ¬ (false = true) by decide)] at H
    obtain rfl := Option.some.inj H
    go_enter Try.func13, Try.ntmps13
    go_wp2_with (first | ((with_reducible refine gate_dst (N := 5) rfl ?_); (try (refine gate_guard (by rfl) ?_; dsimp only)); refine box_event rfl (N := 5) rfl (cs := #[.string a0_0, .string a0_1]) (t := 26) hr_ ?_; intro gb788 hg w22 hbox hb; have BK788 := q_ (hbox); have GW788 := q_ ((by rw [hg]; exact (below_size (be_ HB.out)) : w.heap.size ≤ gb788)); have GE788 := q_ ((by rw [hg]; exact (below_size (be_ HB.out)) : w.heap.size ≤ gb788)); replace HB := q_ (below_step (be_ HB.out) hb); clear hb hbox hg) | ((with_reducible refine gate_callee (f := 40) rfl ?_); refine gl_ (some 15) Try.func40 #[.int .i64 a1, .int .i64 a2] rfl al_ ?_; (with_reducible refine (impl_isPlace.calls a1 a2 false _ A6.out).mono ?_); rintro e w' ⟨rfl, ⟨nd, rfl⟩⟩; refine ⟨_, rfl, ?_⟩))
    go_ret
    exact ⟨rf_, bs_ HB.out GE788.out⟩

/-! ###  impl_rootOf: function 55 -/
def impl_rootOf.f (k : Nat) (l0 : List (S26)) : Option (ByteArray) := (impl_innerOf.f k l0).bind fun t796 => ((impl_rootBytes.f k (l0.length : Int) t796).bind fun t797 => ((impl_Digest.f k t797).bind fun t800 => (some t800)))
set_option maxHeartbeats 8000000 in
set_option maxRecDepth 100000 in
theorem impl_rootOf.calls (k : Nat) (A0 : Option Addr) (c0 : Nat) (l0 : List (S26)) (r : ByteArray) (w : World) (hr0 : Kd.C k26 w A0 l0.length l0) (hc0 : l0.length ≤ c0) (h : impl_rootOf.f k l0 = some r) :
  Calls Try.prog 55 #[.slice A0 l0.length c0] w fun e w' => e = .returned (.string r) ∧ Below w.heap.size w w' := by
  have HR0 := Aside0.mk hr0
  have HC0 := Aside0.mk hc0
  clear hr0 hc0
  have HB := q_ (Below.refl w.heap.size w)
  have H := h
  clear h
  unfold impl_rootOf.f at H
  obtain ⟨t796, A2, H⟩ := bo_ H
  obtain ⟨t797, A3, H⟩ := bo_ H
  obtain ⟨t800, A4, H⟩ := bo_ H
  obtain rfl := Option.some.inj H
  go_enter Try.func55, Try.ntmps55
  go_wp2_with (first | ((with_reducible refine gate_callee (f := 46) rfl ?_); refine gl_ (some 6) Try.func46 #[.slice A0 l0.length c0] rfl al_ ?_; (with_reducible refine (impl_innerOf.calls k _ _ l0 t796 _ ?side1 ?side2 A2.out).mono ?_); (case side1 => exact kc_ HR0.out); (case side2 => exact HC0.out); rintro e w5 ⟨rfl, hb⟩; refine ⟨_, rfl, ?_⟩; replace HB := q_ (below_step (be_ HB.out) hb); (try clear hb)) | ((with_reducible refine gate_callee (f := 45) rfl ?_); refine gl_ (some 7) Try.func45 #[.int .i64 (l0.length : Int), .string t796] rfl al_ ?_; (with_reducible refine (impl_rootBytes.calls k (l0.length : Int) t796 t797 _ A3.out).mono ?_); rintro e w6 ⟨v798, rfl, ho0, hb⟩; refine ⟨_, rfl, ?_⟩; have HO799 := q_ (Kd.R_lower ho0 (below_size (be_ HB.out))); replace HB := q_ (below_step (be_ HB.out) hb); (try clear hb); (try clear ho0); obtain ⟨Ao7, co7, eo7⟩ := Kd.R_slice HO799.out; subst eo7) | ((with_reducible refine gate_callee (f := 53) rfl ?_); refine gl_ (some 8) Try.func53 #[.slice Ao7 t797.length co7] rfl al_ ?_; (with_reducible refine (impl_Digest.calls k _ _ t797 t800 _ ?side1 ?side2 A4.out).mono ?_); (case side1 => exact kc_ (Kd.R_reads' HO799.out).2.2); (case side2 => exact (Kd.R_reads' HO799.out).2.1); rintro e w8 ⟨rfl, hb⟩; refine ⟨_, rfl, ?_⟩; replace HO799 := q_ (Kd.R_below (kr_ HO799.out) hb); replace HB := q_ (below_step (be_ HB.out) hb); (try clear hb)))
  go_ret
  exact ⟨rf_, be_ HB.out⟩

/-! ###  impl_RootOf: function 14 -/
def impl_RootOf.f (k : Nat) (l0 : List (S26)) : Option (ByteArray) := if (l0.length : Int) > 60 then (some (⟨#[]⟩ : ByteArray)) else ((impl_rootOf.f k l0).bind fun t801 => (some t801))
set_option maxHeartbeats 8000000 in
set_option maxRecDepth 100000 in
theorem impl_RootOf.calls (k : Nat) (A0 : Option Addr) (c0 : Nat) (l0 : List (S26)) (r : ByteArray) (w : World) (hr0 : Kd.C k26 w A0 l0.length l0) (hc0 : l0.length ≤ c0) (h : impl_RootOf.f k l0 = some r) :
  Calls Try.prog 14 #[.slice A0 l0.length c0] w fun e w' => e = .returned (.string r) ∧ Below w.heap.size w w' := by
  have HR0 := Aside0.mk hr0
  have HC0 := Aside0.mk hc0
  clear hr0 hc0
  have HB := q_ (Below.refl w.heap.size w)
  have H := h
  clear h
  unfold impl_RootOf.f at H
  by_cases c2 : (l0.length : Int) > 60
  · rw [if_pos c2] at H
    have c2b0 : decide (60 < (l0.length : Int)) = true := decide_eq_true c2
    have c2b1 : decide (60 < l0.length) = true := decide_eq_true (by omega)
    clear c2
    obtain rfl := Option.some.inj H
    go_enter Try.func14, Try.ntmps14
    go_wp2
    go_ret
    exact ⟨rf_, be_ HB.out⟩
  · rw [if_neg c2] at H
    have c2b0 : decide (60 < (l0.length : Int)) = false := decide_eq_false c2
    have c2b1 : decide (60 < l0.length) = false := decide_eq_false (by omega)
    clear c2
    obtain ⟨t801, A3, H⟩ := bo_ H
    obtain rfl := Option.some.inj H
    go_enter Try.func14, Try.ntmps14
    go_wp2_with (first | ((with_reducible refine gate_callee (f := 55) rfl ?_); refine gl_ (some 7) Try.func55 #[.slice A0 l0.length c0] rfl al_ ?_; (with_reducible refine (impl_rootOf.calls k _ _ l0 t801 _ ?side1 ?side2 A3.out).mono ?_); (case side1 => exact kc_ HR0.out); (case side2 => exact HC0.out); rintro e w4 ⟨rfl, hb⟩; refine ⟨_, rfl, ?_⟩; replace HB := q_ (below_step (be_ HB.out) hb); (try clear hb)))
    go_ret
    exact ⟨rf_, be_ HB.out⟩

end Go.Proofs.Ythkaifddpjjmaaa.P
