-- Written by wip/xp/xp.py over the kit's print; Lean checks it.
import Derived.Test.YthkaifddpjjmaaaPx0
import Derived.Test.YthkaifddpjjmaaaPx7
import Derived.Test.YthkaifddpjjmaaaPx8
import Derived.Test.YthkaifddpjjmaaaPx10
import Derived.Test.YthkaifddpjjmaaaPx11
namespace Go.Proofs.Ythkaifddpjjmaaa.P
open Go.RowKit Go.Proofs.YthkaifddpjjmaaaW.PrintWords Go.Proofs.YthkaifddpjjmaaaW.PrintLast Go.Proofs.YthkaifddpjjmaaaW.PrintMore
attribute [local go_sem] max2_int min2_int max_two min_two max_three min_three max_four min_four   -- for this text's walks alone
set_option linter.unusedVariables false
set_option linter.unusedSimpArgs false

/-! ###  impl_PartAt: function 9 -/
mutual
def impl_PartAt.j0 : Nat → List (S26) → Int → Int → List ByteArray → Bool → ByteArray → ByteArray → Option (ByteArray × ByteArray × Bool)
  | 0, _, _, _, _, _, _, _ => none
  | k + 1, x0, x2, x3, x4, x30, x651000, x651001 => if x30 = true then (some ((⟨#[]⟩ : ByteArray), (⟨#[]⟩ : ByteArray), false)) else ((impl_wayTo.f k x651000 x651001 x2 x3 x4).bind fun bt653 => (if bt653.2 = true then (if (x0.length : Int) = x3 then (if 0 ≤ x2 then (if x2 < (x0.length : Int) then ((impl_pathOf.f k x0 x2).bind fun t658 => ((impl_wayTo.f k ((rd_T26 x0 x2).f0) ((rd_T26 x0 x2).f1) x2 x3 t658).bind fun bt661 => (impl_PartAt.l0 k x0 bt653.1 bt661.1 (bt653.1.length : Int) 0))) else (none)) else (none)) else (if 0 ≤ (wrap64 ((bt653.1.length : Int) - 1)) then (if (wrap64 ((bt653.1.length : Int) - 1)) < (bt653.1.length : Int) then ((impl_innerOf.f k x0).bind fun t675 => ((impl_rootBytes.f k (x0.length : Int) t675).bind fun t676 => ((impl_isFull.f k (strOfNums (rd_L4 bt653.1 (wrap64 ((bt653.1.length : Int) - 1)))) (strOfNums t676)).bind fun t679 => (some (strOfNums (rd_L4 bt653.1 (wrap64 ((bt653.1.length : Int) - 1))), strOfNums t676, t679))))) else (none)) else (none))) else (some ((⟨#[]⟩ : ByteArray), (⟨#[]⟩ : ByteArray), false))))
def impl_PartAt.l0 : Nat → List (S26) → List (List Int) → List (List Int) → Int → Int → Option (ByteArray × ByteArray × Bool)
  | 0, _, _, _, _, _ => none
  | k + 1, x0, x13, x15, x59, x60 => if x60 < x59 then (if 0 ≤ x60 then (if x60 < (x13.length : Int) then (if x60 < (x15.length : Int) then ((impl_isFull.f k (strOfNums (rd_L4 x13 x60)) (strOfNums (rd_L4 x15 x60))).bind fun t667 => (if t667 = true then (some (strOfNums (rd_L4 x13 x60), strOfNums (rd_L4 x15 x60), true)) else (impl_PartAt.l0 k x0 x13 x15 x59 (wrap64 (x60 + 1))))) else (none)) else (none)) else (none)) else (if 0 ≤ (wrap64 ((x13.length : Int) - 1)) then (if (wrap64 ((x13.length : Int) - 1)) < (x13.length : Int) then ((impl_innerOf.f k x0).bind fun t669 => ((impl_rootBytes.f k (x0.length : Int) t669).bind fun t670 => ((impl_isFull.f k (strOfNums (rd_L4 x13 (wrap64 ((x13.length : Int) - 1)))) (strOfNums t670)).bind fun t673 => (some (strOfNums (rd_L4 x13 (wrap64 ((x13.length : Int) - 1))), strOfNums t670, t673))))) else (none)) else (none))
end
def impl_PartAt.f (k : Nat) (l0 : List (S26)) (a1_0 : ByteArray) (a1_1 : ByteArray) (a2 : Int) (a3 : Int) (l4 : List ByteArray) : Option (ByteArray × ByteArray × Bool) := (impl_isPlace.f a2 a3).bind fun t651 => (if t651 = true then ((impl_PairsOk.f k l0).bind fun t652 => (impl_PartAt.j0 k l0 a2 a3 l4 (!t652) a1_0 a1_1)) else (impl_PartAt.j0 k l0 a2 a3 l4 true a1_0 a1_1))
def impl_PartAt.T7 : Bool × List (List Nat × List Nat) := (true, [([], []), ([], []), ([0, 1], [0, 1]), ([2], [2]), ([], []), ([], []), ([], []), ([], []), ([6, 7], [6, 7]), ([3, 4, 5, 8, 8], [3, 4, 5, 8]), ([9], [9]), ([10], [10]), ([10], [10]), ([11, 9, 0, 1, 2, 3, 4, 5, 6, 7, 8, 9, 10, 11], [11]), ([12, 13, 0, 1, 2, 3, 4, 5, 6, 7, 8, 9, 10, 11, 12, 13], [12])])
def impl_PartAt.B7 : List Nat := [0, 0, 3, 7, 0, 0, 0, 0, 192, 511, 1023, 2047, 2047, 4095, 16383]
theorem impl_PartAt.tab7 : rtab .any (opsOf Try.f9 7) = impl_PartAt.T7 := by kernel_rfl
theorem impl_PartAt.bits7 : waitsOk impl_PartAt.T7.2 impl_PartAt.B7 = true := by kernel_rfl
def impl_PartAt.T11 : Bool × List (List Nat × List Nat) := (true, [([], []), ([], []), ([0, 1], [0, 1]), ([2], [2]), ([3], [3]), ([], []), ([], []), ([5, 6], [5, 6]), ([7], [7]), ([8], [8]), ([4, 0, 1, 2, 3, 4], [4]), ([9, 10, 0, 1, 2, 3, 4, 5, 6, 7, 8, 9, 10], [9])])
def impl_PartAt.B11 : List Nat := [0, 0, 3, 7, 15, 0, 0, 96, 224, 480, 31, 2047]
theorem impl_PartAt.tab11 : rtab .any (opsOf Try.f9 11) = impl_PartAt.T11 := by kernel_rfl
theorem impl_PartAt.bits11 : waitsOk impl_PartAt.T11.2 impl_PartAt.B11 = true := by kernel_rfl
def impl_PartAt.T15 : Bool × List (List Nat × List Nat) := (true, [([], []), ([], []), ([1], [1]), ([2], [2]), ([0, 3], [0, 3]), ([4], [4]), ([5], [5]), ([], []), ([7], [7]), ([], []), ([9], [9]), ([8, 10, 10], [8, 10]), ([11], [11]), ([6, 11, 0, 1, 2, 3, 4, 5, 6], [6]), ([12, 13, 0, 1, 2, 3, 4, 5, 6, 7, 8, 9, 10, 11, 12, 13], [12])])
def impl_PartAt.B15 : List Nat := [0, 0, 2, 6, 15, 31, 63, 0, 128, 0, 512, 1920, 3968, 4095, 16383]
theorem impl_PartAt.tab15 : rtab .any (opsOf Try.f9 15) = impl_PartAt.T15 := by kernel_rfl
theorem impl_PartAt.bits15 : waitsOk impl_PartAt.T15.2 impl_PartAt.B15 = true := by kernel_rfl
set_option maxHeartbeats 8000000 in
set_option maxRecDepth 100000 in
theorem impl_PartAt.calls (k : Nat) (A0 : Option Addr) (c0 : Nat) (l0 : List (S26)) (a1_0 : ByteArray) (a1_1 : ByteArray) (a2 : Int) (a3 : Int) (A4 : Option Addr) (c4 : Nat) (l4 : List ByteArray) (r1 : ByteArray) (r2 : ByteArray) (r3 : Bool) (w : World) (hr0 : Kd.C k26 w A0 l0.length l0) (hc0 : l0.length ≤ c0) (hr4 : Kd.C Kd.string w A4 l4.length l4) (hc4 : l4.length ≤ c4) (h : impl_PartAt.f k l0 a1_0 a1_1 a2 a3 l4 = some (r1, r2, r3)) :
  Calls Try.prog 9 #[.slice A0 l0.length c0, .agg #[.string a1_0, .string a1_1], .int .i64 a2, .int .i64 a3, .slice A4 l4.length c4] w fun e w' => e = .returned (.tuple #[.string r1, .string r2, .bool r3]) ∧ Below w.heap.size w w' := by
  have hu26 := Try.underlying26
  have HR0 := Aside0.mk hr0
  have HC0 := Aside0.mk hc0
  clear hr0 hc0
  have HR4 := Aside0.mk hr4
  have HC4 := Aside0.mk hc4
  clear hr4 hc4
  have HB := q_ (Below.refl w.heap.size w)
  have H := h
  clear h
  unfold impl_PartAt.f at H
  have HC6 := Aside0.mk H
  clear H
  go_enter Try.func9, Try.ntmps9
  go_upto_region 1 with (first | ((with_reducible refine gate_dst (N := 6) rfl ?_); refine box_event rfl (N := 6) rfl (cs := #[.string a1_0, .string a1_1]) (t := 26) hr_ ?_; intro gb650 hg w7 hbox hb; have BK650 := q_ (hbox); have GW650 := q_ ((by rw [hg]; exact (below_size (be_ HB.out)) : w.heap.size ≤ gb650)); have GE650 := q_ ((by rw [hg]; exact (below_size (be_ HB.out)) : w.heap.size ≤ gb650)); replace HB := q_ (below_step (be_ HB.out) hb); clear hb hbox hg))
  (try simp only [Act.put, sa_, sz_, ss_])
  go_cut [30] (fun v30 wc => ∃ (kq : Nat) (x30_5 : Bool), v30 = .bool x30_5 ∧ Aside0 (impl_PartAt.j0 kq l0 a2 a3 l4 x30_5 a1_0 a1_1 = some (r1, r2, r3)) ∧ Aside0 (kq ≤ k) ∧ Aside0 (wc.heap[gb650]? = some (.cells #[.string a1_0, .string a1_1] 26 (0, 0))) ∧ Aside0 (Below w.heap.size w wc))
  case first =>
   have H := HC6.out
   clear HC6
   obtain ⟨t651, A8, H⟩ := bo_ H
   by_cases c9 : t651 = true
   rotate_left
   · replace c9 := Bool.eq_false_iff.mpr c9
     subst c9
     rw [if_neg (show ¬ (false = true) by decide)] at H
     have H' := Aside0.mk H
     clear H
     go_wp2_with (first | ((with_reducible refine gate_callee (f := 40) rfl ?_); refine gl_ (some 24) Try.func40 #[.int .i64 a2, .int .i64 a3] rfl al_ ?_; (with_reducible refine (impl_isPlace.calls a2 a3 false _ A8.out).mono ?_); rintro e w' ⟨rfl, ⟨nd, rfl⟩⟩; refine ⟨_, rfl, ?_⟩))
     go_meet
     case rel => exact ⟨_, (true), rs_, H', ⟨by first | omega | exact Nat.le_refl _⟩, ⟨by (with_reducible repeat (first | refine blk_drewN ?_ _ | refine blk_drew ?_ | refine blk_alloc ?_ _)); exact BK650.out⟩, ⟨bs_ HB.out GE650.out⟩⟩
   subst c9
   rw [if_pos rfl] at H
   obtain ⟨t652, A10, H⟩ := bo_ H
   have H' := Aside0.mk H
   clear H
   go_wp2_with (first | ((with_reducible refine gate_callee (f := 40) rfl ?_); refine gl_ (some 24) Try.func40 #[.int .i64 a2, .int .i64 a3] rfl al_ ?_; (with_reducible refine (impl_isPlace.calls a2 a3 true _ A8.out).mono ?_); rintro e w' ⟨rfl, ⟨nd, rfl⟩⟩; refine ⟨_, rfl, ?_⟩) | (go_at_call 41; (with_reducible refine (impl_PairsOk.calls k _ _ l0 t652 _ ?side1 ?side2 A10.out).mono ?_); (case side1 => repeat (first | exact (Kd.C_below HR0.out (bs_ HB.out GE650.out)) | (with_reducible refine Kd.C_alloc ?_ _) | (with_reducible refine Kd.C_drewN ?_ _) | (with_reducible refine Kd.C_drew ?_))); (case side2 => exact HC0.out); rintro e w11 ⟨rfl, hb⟩; replace BK650 := q_ (bb_ BK650.out hb); replace HB := q_ (below_step (bs_ HB.out GE650.out) hb); (try clear hb)))
   go_meet
   case rel => exact ⟨_, (!t652), rs_, H', ⟨by first | omega | exact Nat.le_refl _⟩, ⟨by (with_reducible repeat (first | refine blk_drewN ?_ _ | refine blk_drew ?_ | refine blk_alloc ?_ _)); exact BK650.out⟩, ⟨bs_ HB.out GE650.out⟩⟩
  case rest =>
   clear HC6
   try clear p2
   try clear c4
   try clear c9
   obtain ⟨kq, x30_5, rfl, HA, HJ5, BK650, HB⟩ := hcut
   cases kq with
   | zero => exact absurd HA.out (by simp [impl_PartAt.j0])
   | succ kj5 =>
    have H := HA.out
    clear HA
    simp only [impl_PartAt.j0] at H
    by_cases c12 : x30_5 = true
    · subst c12
      rw [if_pos rfl] at H
      simp only [Option.some.injEq, Prod.mk.injEq] at H
      obtain ⟨rfl, rfl, rfl⟩ := H
      go_wp2
      go_ret3
      exact ⟨rf_, bs_ HB.out GE650.out⟩
    · replace c12 := Bool.eq_false_iff.mpr c12
      subst c12
      rw [if_neg (show ¬ (false = true) by decide)] at H
      obtain ⟨⟨t653, t656⟩, A13, H⟩ := bo_ H; try dsimp only at H
      by_cases c14 : t656 = true
      · subst c14
        rw [if_pos rfl] at H
        by_cases c15 : (l0.length : Int) = a3
        rotate_left
        · rw [if_neg c15] at H
          have c15b0 := beq_eq_false_iff_ne.mpr c15
          have c15b1 := bne_iff_ne.mpr c15
          obtain ⟨ji58, hji58⟩ : ∃ j_ : Int, (wrap64 ((t653.length : Int) - 1)) = j_ := ⟨_, rfl⟩
          replace H : (if 0 ≤ (ji58) then (if (ji58) < (t653.length : Int) then ((impl_innerOf.f kj5 l0).bind fun t675 => ((impl_rootBytes.f kj5 (l0.length : Int) t675).bind fun t676 => ((impl_isFull.f kj5 (strOfNums (rd_L4 t653 (ji58))) (strOfNums t676)).bind fun t679 => (some (strOfNums (rd_L4 t653 (ji58)), strOfNums t676, t679))))) else (none)) else (none)) = some (r1, r2, r3) := by first | (rw [hji58] at H; exact H) | (simp only [hji58] at H ⊢; exact H)
          (try rw [hji58] at A13)
          have hji58w : (IntKind.i64.wrap ((t653.length : Int) - 1)) = ji58 := (i64_w _).trans hji58
          obtain ⟨c59, H⟩ := ip_ H
          have c59b0 : decide (0 ≤ (ji58)) = true := decide_eq_true c59
          clear c59
          obtain ⟨c60, H⟩ := ip_ H
          have c60b0 : decide ((ji58) < (t653.length : Int)) = true := decide_eq_true c60
          clear c60
          obtain ⟨t675, A61, H⟩ := bo_ H
          obtain ⟨t676, A62, H⟩ := bo_ H
          obtain ⟨t679, A63, H⟩ := bo_ H
          simp only [Option.some.injEq, Prod.mk.injEq] at H
          obtain ⟨rfl, rfl, rfl⟩ := H
          obtain ⟨hcz64_0, hcz64_1, hfz64_0, hfz64_1⟩ := bx2_ BK650.out
          try go_wp2_with (first | ((with_reducible refine gate_callee (f := 42) rfl ?_); refine gl_ (some 36) Try.func42 #[.agg #[.string a1_0, .string a1_1], .int .i64 a2, .int .i64 a3, .slice A4 l4.length c4] rfl al_ ?_; (with_reducible refine (impl_wayTo.calls kj5 a1_0 a1_1 a2 a3 _ _ l4 t653 true _ ?side1 ?side2 A13.out).mono ?_); (case side1 => exact kc_ (Kd.C_below HR4.out HB.out)); (case side2 => exact HC4.out); rintro e w65 ⟨v654, rfl, ho0, hb⟩; refine ⟨_, rfl, ?_⟩; have HO655 := q_ (Kd.N_lower (Kd.N_mono (ok' := fun k_ => k_ ≠ gb650) ho0 (fun k_ hk_ => (Kd.freshB (g := gb650) (o := .cells #[.string a1_0, .string a1_1] 26 (0, 0)) (bk_ BK650.out) k_ hk_))) (below_size (bs_ HB.out GE650.out))); replace BK650 := q_ (bb_ BK650.out hb); replace HB := q_ (below_step (bs_ HB.out GE650.out) hb); (try clear hb); (try clear ho0)))
          replace HO655 := q_ (Kd.N_drew HO655.out)
          replace BK650 := q_ (blk_drew BK650.out)
          replace HB := q_ (below_drew1 HB.out)
          obtain ⟨Ao67, co67, eo67⟩ := Kd.N_slice HO655.out
          (first | subst eo67 | (injection eo67 with f1_ f2_ f3_; have f4_ := f1_.symm; have f5_ := f3_.symm; clear f1_ f2_ f3_; subst f4_; subst f5_))
          have p674 : 0 ≤ ((ji58) : Int) := od_
          have q674 : (ji58) < (t653.length : Int) := od_
          obtain ⟨ad674, A674_0, c674_0, e674, hx674_0, hl674_0, hi674_0⟩ := at_L4 (Kd.N_reads' HO655.out).2.2 (ji58) p674 q674
          cases e674
          obtain ⟨ce674, hce674, hMe674, hcc674⟩ := Kd.N_get HO655.out [] (ji58) p674 (by first | exact q674 | exact od_ | (have e_ := (Kd.N_reads' HO655.out).1; omega))
          obtain ⟨ua674_0, uc674_0, rfl, ul674_0, ge674_0⟩ := Kd.FK_slice_open hMe674
          have hv674_0 := hcc674 0 _ rfl
          rw [Nat.add_zero, show ((Kd.slice 5 (Kd.int .u8))).sz = 1 from rfl, Nat.mul_one] at hv674_0
          replace hv674_0 := Option.some.inj (hv674_0.symm.trans hx674_0)
          injection hv674_0 with hva_ hvn_ hvc_
          rw [hva_] at ge674_0
          rw [hvc_] at ul674_0
          have HL674_0 := q_ (show Kd.V (Kd.int .u8) 5 _ w.heap.size _ _ (rd_L4 t653 (ji58)) from Kd.V_mk ul674_0 ge674_0)
          clear hva_ hvn_ hvc_ ge674_0 ul674_0
          clear hcc674 hce674
          have HR674_0 := Aside0.mk hi674_0
          have HC674_0 := Aside0.mk hl674_0
          clear hi674_0 hl674_0
          replace p674 := eq_true p674
          replace q674 := eq_true q674
          have hcv68 := Kd.C_string (P := Try.prog) (A := A674_0) (c := c674_0) Try.underlying22 Try.underlying5 Try.underlying9 (by repeat (first | (with_reducible exact HR674_0.out) | (with_reducible refine Kd.C_alloc ?_ _) | (with_reducible refine Kd.C_drewN ?_ _) | (with_reducible refine Kd.C_drew ?_) | exact HR674_0.out))
          refine start_ (n := 15) (S := fun w' => (w'.cell? (ad674.add ((ji58)).toNat) = some (.slice A674_0 (rd_L4 t653 (ji58)).length c674_0)) ∧ Kd.C (Kd.int .u8) w' A674_0 (rd_L4 t653 (ji58)).length (rd_L4 t653 (ji58))) (ds := []) (bq_ 0 15) (by kernel_rfl) rfl rfl ⟨(hx674_0), Kd.C_drew HR674_0.out⟩ (fun hHeld => ?_); refine with_tabW impl_PartAt.tab15 impl_PartAt.bits15 (fun HT_ HW_ => ?_)
          generalize w65.drew = w66 at HO655 BK650 HB HL674_0 HR674_0 hx674_0 hHeld ⊢
          refine p_ 0 79 HT_ ?_; refine p_ 1 80 HT_ ?_; refine p_ 2 81 HT_ ?_; refine p_ 3 82 HT_ ?_; refine p_ 4 83 HT_ ?_; refine p_ 7 86 HT_ ?_; refine p_ 8 87 HT_ ?_; refine p_ 9 88 HT_ ?_; refine k_ 5 84 HT_ HW_ hHeld ?_
          refine take_ (i := 6) (N := some 85) (v := ?_) (a' := ?_) (bq_ 10 5) rfl rfl (take_ofW HT_.out HW_.out (by kernel_rfl)) (fun _ _ _ h => h) (Or.inl ⟨by rfl, ?_⟩) hHeld ?_ ?_
          rotate_left
          · rintro w' ⟨_, sc⟩
            have hcv_ := Kd.C_string (P := Try.prog) (A := A674_0) (c := c674_0) Try.underlying22 Try.underlying5 Try.underlying9 sc
            go_simp
            with_reducible rfl
          rotate_left
          · simp only [Act.put, sa_, sz_, ss_, i64_w, i32_w]; rfl
          refine oc_ 10 89 (bq_ 11 4) HT_ Try.func46 #[.slice A0 l0.length c0] ?_
          with_reducible refine (impl_innerOf.calls kj5 _ _ l0 t675 _ ?side1 ?side2 A61.out).mono ?_
          (case side1 => exact kc_ (Kd.C_below HR0.out HB.out))
          (case side2 => exact HC0.out)
          rintro e w69 ⟨rfl, hb⟩
          have HS0_ := (hb.cell (World.block_lt_of_cell? _ _ (hHeld.1))).trans (hHeld.1)
          have HSC_ := Kd.C_below hHeld.2 hb
          refine ⟨_, rfl, ?_⟩
          replace HO655 := q_ (Kd.N_below (by (with_reducible repeat (first | apply Kd.N_alloc | apply Kd.N_drewN | apply Kd.N_drew)); exact HO655.out) hb)
          replace HL674_0 := q_ (Kd.V_below (by (with_reducible repeat (first | apply Kd.V_alloc | apply Kd.V_drewN | apply Kd.V_drew)); exact HL674_0.out) hb)
          replace BK650 := q_ (bb_ BK650.out hb)
          replace HR674_0 := q_ (Kd.C_below (by repeat (first | (with_reducible exact HR674_0.out) | (with_reducible refine Kd.C_alloc ?_ _) | (with_reducible refine Kd.C_drewN ?_ _) | (with_reducible refine Kd.C_drew ?_) | exact HR674_0.out)) hb)
          replace HB := q_ (below_step (bs_ HB.out GE650.out) hb)
          (try clear hb)
          (try clear hb2)
          (try clear hk)
          (try clear hi)
          refine ⟨⟨HS0_, HSC_⟩, fun hHeld => nm_ ?_⟩
          refine oc_ 11 90 (bq_ 12 3) HT_ Try.func45 #[.int .i64 (l0.length : Int), .string t675] ?_
          with_reducible refine (impl_rootBytes.calls kj5 (l0.length : Int) t675 t676 _ A62.out).mono ?_
          rintro e w70 ⟨v677, rfl, ho0, hb⟩
          have HS0_ := (hb.cell (World.block_lt_of_cell? _ _ (hHeld.1))).trans (hHeld.1)
          have HSC_ := Kd.C_below hHeld.2 hb
          refine ⟨_, rfl, ?_⟩
          replace HO655 := q_ (Kd.N_elder' (by (with_reducible repeat (first | apply Kd.N_alloc | apply Kd.N_drewN | apply Kd.N_drew)); exact HO655.out) (Kd.R_base ho0) hb)
          replace HL674_0 := q_ (Kd.V_elder' (by (with_reducible repeat (first | apply Kd.V_alloc | apply Kd.V_drewN | apply Kd.V_drew)); exact HL674_0.out) (Kd.R_base ho0) hb)
          have HO678 := q_ (Kd.R_lower ho0 (below_size (bs_ HB.out GE650.out)))
          replace BK650 := q_ (bb_ BK650.out hb)
          replace HR674_0 := q_ (Kd.C_below (by repeat (first | (with_reducible exact HR674_0.out) | (with_reducible refine Kd.C_alloc ?_ _) | (with_reducible refine Kd.C_drewN ?_ _) | (with_reducible refine Kd.C_drew ?_) | exact HR674_0.out)) hb)
          replace HB := q_ (below_step (bs_ HB.out GE650.out) hb)
          (try clear hb)
          (try clear hb2)
          (try clear hk)
          (try clear hi)
          (try clear ho0)
          refine ⟨⟨HS0_, HSC_⟩, fun hHeld => nm_ ?_⟩
          refine p_ 13 20 HT_ ?_
          refine on_ 12 (some 91) (bq_ 14 1) HT_ (fun K hK => ?_)
          have hcv71 := own_string (P := Try.prog) Try.underlying22 Try.underlying5 Try.underlying9 (Kd.own_of_R HO678.out)
          refine value_ (w1 := ?_) (v := ?_) (by rfl) rfl ?_ ?_
          rotate_left 2
          · go_simp
            constructor
            · rfl
            · rfl
          clear hcv71
          refine hK.out _ _ hHeld (fun hHeld => ?_)
          clear hK K
          refine nm_ ?_
          refine p_ 14 21 HT_ ?_
          refine done_ (done_of HT_.out (by kernel_rfl)) ?_
          try go_wp2_with (first | ((with_reducible refine gate_callee (f := 44) rfl ?_); refine gl_ (some 96) Try.func44 #[.string (strOfNums (rd_L4 t653 (ji58))), .string (strOfNums t676)] rfl (by (try simp only [List.map_toArray, List.map_cons, List.map_nil]); first | done | (simp only [hji58]; rfl) | rfl | (simp only [List.length_drop, List.length_take]; rfl)) ?_; (with_reducible refine (impl_isFull.calls kj5 (strOfNums (rd_L4 t653 (ji58))) (strOfNums t676) t679 _ A63.out).mono ?_); rintro e w73 ⟨rfl, hb⟩; refine ⟨_, rfl, ?_⟩; replace HO655 := q_ (Kd.N_below (by (with_reducible repeat (first | apply Kd.N_alloc | apply Kd.N_drewN | apply Kd.N_drew)); exact HO655.out) hb); replace HL674_0 := q_ (Kd.V_below (by (with_reducible repeat (first | apply Kd.V_alloc | apply Kd.V_drewN | apply Kd.V_drew)); exact HL674_0.out) hb); replace HO678 := q_ (Kd.R_below (kr_ HO678.out) hb); replace BK650 := q_ (bb_ BK650.out hb); replace HB := q_ (below_step (bs_ HB.out GE650.out) hb); (try clear hb)))
          go_ret3
          exact ⟨by first | rfl | (simp [errW_none, errW_some] <;> rfl) | (simp only [← hji58]; first | rfl | (simp [errW_none, errW_some] <;> rfl)) | (simp [*, errW_none, errW_some] <;> rfl), bs_ HB.out GE650.out⟩
        rw [if_pos c15] at H
        have c15b0 := beq_iff_eq.mpr c15
        have c15b1 := bne_eq_false_iff_eq.mpr c15
        clear c15
        obtain ⟨c16, H⟩ := ip_ H
        have c16b0 : decide (0 ≤ a2) = true := decide_eq_true c16
        clear c16
        obtain ⟨c17, H⟩ := ip_ H
        have c17b0 : decide (a2 < (l0.length : Int)) = true := decide_eq_true c17
        clear c17
        obtain ⟨t658, A18, H⟩ := bo_ H
        obtain ⟨⟨t661, t664⟩, A19, H⟩ := bo_ H; try dsimp only at H
        have H' := Aside0.mk H
        clear H
        obtain ⟨hcz20_0, hcz20_1, hfz20_0, hfz20_1⟩ := bx2_ BK650.out
        try go_wp2_with (first | ((with_reducible refine gate_callee (f := 42) rfl ?_); refine gl_ (some 36) Try.func42 #[.agg #[.string a1_0, .string a1_1], .int .i64 a2, .int .i64 a3, .slice A4 l4.length c4] rfl al_ ?_; (with_reducible refine (impl_wayTo.calls kj5 a1_0 a1_1 a2 a3 _ _ l4 t653 true _ ?side1 ?side2 A13.out).mono ?_); (case side1 => exact kc_ (Kd.C_below HR4.out HB.out)); (case side2 => exact HC4.out); rintro e w21 ⟨v654, rfl, ho0, hb⟩; refine ⟨_, rfl, ?_⟩; have HO655 := q_ (Kd.N_lower (Kd.N_mono (ok' := fun k_ => k_ ≠ gb650) ho0 (fun k_ hk_ => (Kd.freshB (g := gb650) (o := .cells #[.string a1_0, .string a1_1] 26 (0, 0)) (bk_ BK650.out) k_ hk_))) (below_size (bs_ HB.out GE650.out))); replace BK650 := q_ (bb_ BK650.out hb); replace HB := q_ (below_step (bs_ HB.out GE650.out) hb); (try clear hb); (try clear ho0)))
        replace HO655 := q_ (Kd.N_drew HO655.out)
        replace BK650 := q_ (blk_drew BK650.out)
        replace HB := q_ (below_drew1 HB.out)
        have p657 : 0 ≤ (a2 : Int) := od_
        have q657 : a2 < (l0.length : Int) := od_
        obtain ⟨ad657, e657, hx657_0, hx657_1⟩ := at_T26 HR0.out a2 p657 q657
        have hw657_1 := hx657_1
        have hw657_0 := hx657_0
        cases e657
        replace hx657_0 := hc_ HB.out hx657_0
        replace hx657_1 := hc_ HB.out hx657_1
        replace p657 := eq_true p657
        replace q657 := eq_true q657
        refine start_ (n := 15) (S := fun w' => w'.cell? (ad657.add ((a2).toNat * 2)) = some (.string ((rd_T26 l0 a2).f0)) ∧ w'.cell? ⟨(ad657.add ((a2).toNat * 2)).block, (ad657.add ((a2).toNat * 2)).off + 1, none⟩ = some (.string ((rd_T26 l0 a2).f1))) (ds := []) (bq_ 0 15) (by kernel_rfl) rfl rfl ⟨(hc_ HB.out hw657_0), (hc_ HB.out hw657_1)⟩ (fun hHeld => ?_); refine with_tabW impl_PartAt.tab7 impl_PartAt.bits7 (fun HT_ HW_ => ?_)
        generalize w21.drew = w22 at HO655 BK650 HB hx657_0 hx657_1 hHeld ⊢
        refine p_ 0 46 HT_ ?_; refine p_ 1 47 HT_ ?_; refine p_ 2 48 HT_ ?_; refine p_ 4 50 HT_ ?_; refine p_ 5 51 HT_ ?_; refine p_ 6 52 HT_ ?_; refine p_ 7 53 HT_ ?_; refine k_ 3 49 HT_ HW_ hHeld ?_
        refine oc_ 8 54 (bq_ 9 6) HT_ Try.func43 #[.slice (some ad657) l0.length c0, .int .i64 a2] ?_
        with_reducible refine (impl_pathOf.calls kj5 _ _ l0 a2 t658 _ ?side1 ?side2 A18.out).mono ?_
        (case side1 => exact kc_ (Kd.C_below HR0.out HB.out))
        (case side2 => exact HC0.out)
        rintro e w23 ⟨v659, rfl, ho0, hb⟩
        refine ⟨_, rfl, ?_⟩
        replace HO655 := q_ (Kd.N_elder' (by (with_reducible repeat (first | apply Kd.N_alloc | apply Kd.N_drewN | apply Kd.N_drew)); exact HO655.out) (Kd.R_base ho0) hb)
        have HO660 := q_ (Kd.R_lower ho0 (below_size (bs_ HB.out GE650.out)))
        replace BK650 := q_ (bb_ BK650.out hb)
        replace HB := q_ (below_step (bs_ HB.out GE650.out) hb)
        (try clear hb)
        (try clear hb2)
        (try clear hk)
        (try clear hi)
        (try clear ho0)
        obtain ⟨Ao24, co24, eo24⟩ := Kd.R_slice HO660.out
        (first | subst eo24 | (injection eo24 with f1_ f2_ f3_; have f4_ := f1_.symm; have f5_ := f3_.symm; clear f1_ f2_ f3_; subst f4_; subst f5_))
        refine ⟨⟨(hc_ HB.out hw657_0), (hc_ HB.out hw657_1)⟩, fun hHeld => nm_ ?_⟩
        refine oc_ 9 55 (bq_ 10 5) HT_ Try.func42 #[.agg #[.string ((rd_T26 l0 a2).f0), .string ((rd_T26 l0 a2).f1)], .int .i64 a2, .int .i64 a3, .slice Ao24 t658.length co24] ?_
        with_reducible refine (impl_wayTo.calls kj5 ((rd_T26 l0 a2).f0) ((rd_T26 l0 a2).f1) a2 a3 _ _ t658 t661 t664 _ ?side1 ?side2 A19.out).mono ?_
        (case side1 => exact kc_ (Kd.R_reads' HO660.out).2.2)
        (case side2 => exact (Kd.R_reads' HO660.out).2.1)
        rintro e w25 ⟨v662, rfl, ho0, hb⟩
        refine ⟨_, rfl, ?_⟩
        have HO663 := q_ (Kd.N_lower (Kd.N_mono (ok' := fun k_ => some k_ ≠ (v654 : Value).ownBlock ∧ some k_ ≠ (.slice Ao24 t658.length co24 : Value).ownBlock ∧ k_ ≠ gb650) ho0 (fun k_ hk_ => ⟨(Kd.fresh' (Kd.N_lt (by (with_reducible repeat (first | apply Kd.N_alloc | apply Kd.N_drewN | apply Kd.N_drew)); exact HO655.out)) k_ hk_), (Kd.fresh' (Kd.R_lt (kr_ HO660.out)) k_ hk_), (Kd.freshB (g := gb650) (o := .cells #[.string a1_0, .string a1_1] 26 (0, 0)) (bk_ BK650.out) k_ hk_)⟩)) (below_size (bs_ HB.out GE650.out)))
        replace HO655 := q_ (Kd.N_elder' (by (with_reducible repeat (first | apply Kd.N_alloc | apply Kd.N_drewN | apply Kd.N_drew)); exact HO655.out) (Kd.N_base ho0) hb)
        replace HO660 := q_ (Kd.R_below (kr_ HO660.out) hb)
        replace BK650 := q_ (bb_ BK650.out hb)
        replace HB := q_ (below_step (bs_ HB.out GE650.out) hb)
        (try clear hb)
        (try clear hb2)
        (try clear hk)
        (try clear hi)
        (try clear ho0)
        refine ⟨⟨(hc_ HB.out hw657_0), (hc_ HB.out hw657_1)⟩, fun hHeld => nm_ ?_⟩
        refine p_ 10 45 HT_ ?_; refine p_ 11 56 HT_ ?_; refine p_ 12 57 HT_ ?_; refine p_ 13 15 HT_ ?_; refine p_ 14 16 HT_ ?_
        refine done_ (done_of HT_.out (by kernel_rfl)) ?_
        obtain ⟨Ao26, co26, eo26⟩ := Kd.N_slice HO655.out
        subst eo26
        try go_wp2
        go_loopg [60] kj5 (fun kq v60 w' => ∃ (x60_2 : Int), v60 = .int .i64 x60_2 ∧ Aside0 (impl_PartAt.l0 kq l0 t653 t661 (t653.length : Int) x60_2 = some (r1, r2, r3)) ∧ Aside0 (kq ≤ kj5) ∧ Aside0 (Kd.N (Kd.slice 5 (Kd.int .u8)) 22 w' w.heap.size (fun k_ => some k_ ≠ (v662 : Value).ownBlock ∧ k_ ≠ gb650) (.slice Ao26 t653.length co26) t653) ∧ Aside0 (Kd.N (Kd.slice 5 (Kd.int .u8)) 22 w' w.heap.size (fun k_ => some k_ ≠ ((.slice Ao26 t653.length co26) : Value).ownBlock ∧ k_ ≠ gb650) v662 t661) ∧ Aside0 (w'.heap[gb650]? = some (.cells #[.string a1_0, .string a1_1] 26 (0, 0))) ∧ Aside0 (Below w.heap.size w w'))
        case atStart => exact ⟨(0), rs_, H', ⟨Nat.le_refl _⟩, ⟨by (with_reducible repeat (first | apply Kd.N_alloc | apply Kd.N_drewN | apply Kd.N_drew)); exact Kd.N_mono HO655.out (fun _ hk => ⟨hk.2, hk.1.1⟩)⟩, ⟨by (with_reducible repeat (first | apply Kd.N_alloc | apply Kd.N_drewN | apply Kd.N_drew)); exact Kd.N_mono HO663.out (fun _ hk => ⟨hk.1, hk.2.2⟩)⟩, ⟨by (with_reducible repeat (first | refine blk_drewN ?_ _ | refine blk_drew ?_ | refine blk_alloc ?_ _)); exact BK650.out⟩, ⟨bs_ HB.out GE650.out⟩⟩
        case round =>
         clear H'
         try clear c1
         try clear p2
         try clear c4
         try clear p6
         try clear q6
         try clear hx6
         try clear c9
         try clear c12
         try clear c14
         try clear c15
         try clear c15b0
         try clear c15b1
         try clear c16
         try clear c16b0
         try clear c17
         try clear c17b0
         try clear hcz20_0
         try clear hcz20_1
         try clear hfz20_0
         try clear hfz20_1
         try clear hx657_0
         try clear hx657_1
         try clear p2
         try clear p657
         try clear q657
         obtain ⟨x60_2, rfl, HA, HK2, HO_13, HO_15, BK650, HB⟩ := hrel
         cases gk with
         | zero => exact absurd HA.out (by simp [impl_PartAt.l0])
         | succ k2 =>
          have H := HA.out
          clear HA
          simp only [impl_PartAt.l0] at H
          by_cases c27 : x60_2 < (t653.length : Int)
          rotate_left
          · rw [if_neg c27] at H
            have c27b0 := decide_eq_false c27
            clear c27
            obtain ⟨ji45, hji45⟩ : ∃ j_ : Int, (wrap64 ((t653.length : Int) - 1)) = j_ := ⟨_, rfl⟩
            replace H : (if 0 ≤ (ji45) then (if (ji45) < (t653.length : Int) then ((impl_innerOf.f k2 l0).bind fun t669 => ((impl_rootBytes.f k2 (l0.length : Int) t669).bind fun t670 => ((impl_isFull.f k2 (strOfNums (rd_L4 t653 (ji45))) (strOfNums t670)).bind fun t673 => (some (strOfNums (rd_L4 t653 (ji45)), strOfNums t670, t673))))) else (none)) else (none)) = some (r1, r2, r3) := by first | (rw [hji45] at H; exact H) | (simp only [hji45] at H ⊢; exact H)
            have hji45w : (IntKind.i64.wrap ((t653.length : Int) - 1)) = ji45 := (i64_w _).trans hji45
            obtain ⟨c46, H⟩ := ip_ H
            have c46b0 : decide (0 ≤ (ji45)) = true := decide_eq_true c46
            clear c46
            obtain ⟨c47, H⟩ := ip_ H
            have c47b0 : decide ((ji45) < (t653.length : Int)) = true := decide_eq_true c47
            clear c47
            obtain ⟨t669, A48, H⟩ := bo_ H
            obtain ⟨t670, A49, H⟩ := bo_ H
            obtain ⟨t673, A50, H⟩ := bo_ H
            simp only [Option.some.injEq, Prod.mk.injEq] at H
            obtain ⟨rfl, rfl, rfl⟩ := H
            try go_wp2
            replace HO_13 := q_ (Kd.N_drew HO_13.out)
            replace HO_15 := q_ (Kd.N_drew HO_15.out)
            replace BK650 := q_ (blk_drew BK650.out)
            replace HB := q_ (below_drew1 HB.out)
            have p668 : 0 ≤ ((ji45) : Int) := od_
            have q668 : (ji45) < (t653.length : Int) := od_
            obtain ⟨ad668, A668_0, c668_0, e668, hx668_0, hl668_0, hi668_0⟩ := at_L4 (Kd.N_reads' HO_13.out).2.2 (ji45) p668 q668
            cases e668
            obtain ⟨ce668, hce668, hMe668, hcc668⟩ := Kd.N_get HO_13.out [] (ji45) p668 (by first | exact q668 | exact od_ | (have e_ := (Kd.N_reads' HO_13.out).1; omega))
            obtain ⟨ua668_0, uc668_0, rfl, ul668_0, ge668_0⟩ := Kd.FK_slice_open hMe668
            have hv668_0 := hcc668 0 _ rfl
            rw [Nat.add_zero, show ((Kd.slice 5 (Kd.int .u8))).sz = 1 from rfl, Nat.mul_one] at hv668_0
            replace hv668_0 := Option.some.inj (hv668_0.symm.trans hx668_0)
            injection hv668_0 with hva_ hvn_ hvc_
            rw [hva_] at ge668_0
            rw [hvc_] at ul668_0
            have HL668_0 := q_ (show Kd.V (Kd.int .u8) 5 _ w.heap.size _ _ (rd_L4 t653 (ji45)) from Kd.V_mk ul668_0 ge668_0)
            clear hva_ hvn_ hvc_ ge668_0 ul668_0
            clear hcc668 hce668
            have HR668_0 := Aside0.mk hi668_0
            have HC668_0 := Aside0.mk hl668_0
            clear hi668_0 hl668_0
            replace p668 := eq_true p668
            replace q668 := eq_true q668
            have hcv52 := Kd.C_string (P := Try.prog) (A := A668_0) (c := c668_0) Try.underlying22 Try.underlying5 Try.underlying9 (by repeat (first | (with_reducible exact HR668_0.out) | (with_reducible refine Kd.C_alloc ?_ _) | (with_reducible refine Kd.C_drewN ?_ _) | (with_reducible refine Kd.C_drew ?_) | exact HR668_0.out))
            refine start_ (n := 15) (S := fun w' => (w'.cell? (ad668.add ((ji45)).toNat) = some (.slice A668_0 (rd_L4 t653 (ji45)).length c668_0)) ∧ Kd.C (Kd.int .u8) w' A668_0 (rd_L4 t653 (ji45)).length (rd_L4 t653 (ji45))) (ds := []) (bq_ 0 15) (by kernel_rfl) rfl rfl ⟨(hx668_0), Kd.C_drew HR668_0.out⟩ (fun hHeld => ?_); refine with_tabW impl_PartAt.tab15 impl_PartAt.bits15 (fun HT_ HW_ => ?_)
            generalize wr.drew = w51 at HO_13 HO_15 BK650 HB HL668_0 HR668_0 hx668_0 hHeld ⊢
            refine p_ 0 79 HT_ ?_; refine p_ 1 80 HT_ ?_; refine p_ 2 81 HT_ ?_; refine p_ 3 82 HT_ ?_; refine p_ 4 83 HT_ ?_; refine p_ 7 86 HT_ ?_; refine p_ 8 87 HT_ ?_; refine p_ 9 88 HT_ ?_; refine k_ 5 84 HT_ HW_ hHeld ?_
            refine take_ (i := 6) (N := some 85) (v := ?_) (a' := ?_) (bq_ 10 5) rfl rfl (take_ofW HT_.out HW_.out (by kernel_rfl)) (fun _ _ _ h => h) (Or.inl ⟨by rfl, ?_⟩) hHeld ?_ ?_
            rotate_left
            · rintro w' ⟨_, sc⟩
              have hcv_ := Kd.C_string (P := Try.prog) (A := A668_0) (c := c668_0) Try.underlying22 Try.underlying5 Try.underlying9 sc
              go_simp
              with_reducible rfl
            rotate_left
            · simp only [Act.put, sa_, sz_, ss_, i64_w, i32_w]; rfl
            refine oc_ 10 89 (bq_ 11 4) HT_ Try.func46 #[.slice (some ad657) l0.length c0] ?_
            with_reducible refine (impl_innerOf.calls k2 _ _ l0 t669 _ ?side1 ?side2 A48.out).mono ?_
            (case side1 => exact kc_ (Kd.C_below HR0.out HB.out))
            (case side2 => exact HC0.out)
            rintro e w53 ⟨rfl, hb⟩
            have HS0_ := (hb.cell (World.block_lt_of_cell? _ _ (hHeld.1))).trans (hHeld.1)
            have HSC_ := Kd.C_below hHeld.2 hb
            refine ⟨_, rfl, ?_⟩
            replace HO_13 := q_ (Kd.N_below (by (with_reducible repeat (first | apply Kd.N_alloc | apply Kd.N_drewN | apply Kd.N_drew)); exact HO_13.out) hb)
            replace HO_15 := q_ (Kd.N_below (by (with_reducible repeat (first | apply Kd.N_alloc | apply Kd.N_drewN | apply Kd.N_drew)); exact HO_15.out) hb)
            replace HL668_0 := q_ (Kd.V_below (by (with_reducible repeat (first | apply Kd.V_alloc | apply Kd.V_drewN | apply Kd.V_drew)); exact HL668_0.out) hb)
            replace BK650 := q_ (bb_ BK650.out hb)
            replace HR668_0 := q_ (Kd.C_below (by repeat (first | (with_reducible exact HR668_0.out) | (with_reducible refine Kd.C_alloc ?_ _) | (with_reducible refine Kd.C_drewN ?_ _) | (with_reducible refine Kd.C_drew ?_) | exact HR668_0.out)) hb)
            replace HB := q_ (below_step (bs_ HB.out GE650.out) hb)
            (try clear hb)
            (try clear hb2)
            (try clear hk)
            (try clear hi)
            refine ⟨⟨HS0_, HSC_⟩, fun hHeld => nm_ ?_⟩
            refine oc_ 11 90 (bq_ 12 3) HT_ Try.func45 #[.int .i64 (l0.length : Int), .string t669] ?_
            with_reducible refine (impl_rootBytes.calls k2 (l0.length : Int) t669 t670 _ A49.out).mono ?_
            rintro e w54 ⟨v671, rfl, ho0, hb⟩
            have HS0_ := (hb.cell (World.block_lt_of_cell? _ _ (hHeld.1))).trans (hHeld.1)
            have HSC_ := Kd.C_below hHeld.2 hb
            refine ⟨_, rfl, ?_⟩
            replace HO_13 := q_ (Kd.N_elder' (by (with_reducible repeat (first | apply Kd.N_alloc | apply Kd.N_drewN | apply Kd.N_drew)); exact HO_13.out) (Kd.R_base ho0) hb)
            replace HO_15 := q_ (Kd.N_elder' (by (with_reducible repeat (first | apply Kd.N_alloc | apply Kd.N_drewN | apply Kd.N_drew)); exact HO_15.out) (Kd.R_base ho0) hb)
            replace HL668_0 := q_ (Kd.V_elder' (by (with_reducible repeat (first | apply Kd.V_alloc | apply Kd.V_drewN | apply Kd.V_drew)); exact HL668_0.out) (Kd.R_base ho0) hb)
            have HO672 := q_ (Kd.R_lower ho0 (below_size (bs_ HB.out GE650.out)))
            replace BK650 := q_ (bb_ BK650.out hb)
            replace HR668_0 := q_ (Kd.C_below (by repeat (first | (with_reducible exact HR668_0.out) | (with_reducible refine Kd.C_alloc ?_ _) | (with_reducible refine Kd.C_drewN ?_ _) | (with_reducible refine Kd.C_drew ?_) | exact HR668_0.out)) hb)
            replace HB := q_ (below_step (bs_ HB.out GE650.out) hb)
            (try clear hb)
            (try clear hb2)
            (try clear hk)
            (try clear hi)
            (try clear ho0)
            refine ⟨⟨HS0_, HSC_⟩, fun hHeld => nm_ ?_⟩
            refine p_ 13 20 HT_ ?_
            refine on_ 12 (some 91) (bq_ 14 1) HT_ (fun K hK => ?_)
            have hcv55 := own_string (P := Try.prog) Try.underlying22 Try.underlying5 Try.underlying9 (Kd.own_of_R HO672.out)
            refine value_ (w1 := ?_) (v := ?_) (by rfl) rfl ?_ ?_
            rotate_left 2
            · go_simp
              constructor
              · rfl
              · rfl
            clear hcv55
            refine hK.out _ _ hHeld (fun hHeld => ?_)
            clear hK K
            refine nm_ ?_
            refine p_ 14 21 HT_ ?_
            refine done_ (done_of HT_.out (by kernel_rfl)) ?_
            try go_wp2_with (first | ((with_reducible refine gate_callee (f := 44) rfl ?_); refine gl_ (some 96) Try.func44 #[.string (strOfNums (rd_L4 t653 (ji45))), .string (strOfNums t670)] rfl (by (try simp only [List.map_toArray, List.map_cons, List.map_nil]); first | done | (simp only [hji45]; rfl) | rfl | (simp only [List.length_drop, List.length_take]; rfl)) ?_; (with_reducible refine (impl_isFull.calls k2 (strOfNums (rd_L4 t653 (ji45))) (strOfNums t670) t673 _ A50.out).mono ?_); rintro e w57 ⟨rfl, hb⟩; refine ⟨_, rfl, ?_⟩; replace HO_13 := q_ (Kd.N_below (by (with_reducible repeat (first | apply Kd.N_alloc | apply Kd.N_drewN | apply Kd.N_drew)); exact HO_13.out) hb); replace HO_15 := q_ (Kd.N_below (by (with_reducible repeat (first | apply Kd.N_alloc | apply Kd.N_drewN | apply Kd.N_drew)); exact HO_15.out) hb); replace HL668_0 := q_ (Kd.V_below (by (with_reducible repeat (first | apply Kd.V_alloc | apply Kd.V_drewN | apply Kd.V_drew)); exact HL668_0.out) hb); replace HO672 := q_ (Kd.R_below (kr_ HO672.out) hb); replace BK650 := q_ (bb_ BK650.out hb); replace HB := q_ (below_step (bs_ HB.out GE650.out) hb); (try clear hb)))
            go_ret3
            exact ⟨by first | rfl | (simp [errW_none, errW_some] <;> rfl) | (simp only [← hji45]; first | rfl | (simp [errW_none, errW_some] <;> rfl)) | (simp [*, errW_none, errW_some] <;> rfl), bs_ HB.out GE650.out⟩
          rw [if_pos c27] at H
          have c27b0 := decide_eq_true c27
          clear c27
          obtain ⟨c28, H⟩ := ip_ H
          have c28b0 : decide (0 ≤ x60_2) = true := decide_eq_true c28
          clear c28
          obtain ⟨c29, H⟩ := ip_ H
          have c29b0 : decide (x60_2 < (t653.length : Int)) = true := decide_eq_true c29
          clear c29
          obtain ⟨c30, H⟩ := ip_ H
          have c30b0 : decide (x60_2 < (t661.length : Int)) = true := decide_eq_true c30
          clear c30
          obtain ⟨t667, A31, H⟩ := bo_ H
          by_cases c32 : t667 = true
          · subst c32
            rw [if_pos rfl] at H
            simp only [Option.some.injEq, Prod.mk.injEq] at H
            obtain ⟨rfl, rfl, rfl⟩ := H
            try go_wp2
            replace HO_13 := q_ (Kd.N_drew HO_13.out)
            replace HO_15 := q_ (Kd.N_drew HO_15.out)
            replace BK650 := q_ (blk_drew BK650.out)
            replace HB := q_ (below_drew1 HB.out)
            have p665 : 0 ≤ (x60_2 : Int) := od_
            have q665 : x60_2 < (t653.length : Int) := od_
            obtain ⟨ad665, A665_0, c665_0, e665, hx665_0, hl665_0, hi665_0⟩ := at_L4 (Kd.N_reads' HO_13.out).2.2 x60_2 p665 q665
            cases e665
            obtain ⟨ce665, hce665, hMe665, hcc665⟩ := Kd.N_get HO_13.out [] x60_2 p665 (by first | exact q665 | exact od_ | (have e_ := (Kd.N_reads' HO_13.out).1; omega))
            obtain ⟨ua665_0, uc665_0, rfl, ul665_0, ge665_0⟩ := Kd.FK_slice_open hMe665
            have hv665_0 := hcc665 0 _ rfl
            rw [Nat.add_zero, show ((Kd.slice 5 (Kd.int .u8))).sz = 1 from rfl, Nat.mul_one] at hv665_0
            replace hv665_0 := Option.some.inj (hv665_0.symm.trans hx665_0)
            injection hv665_0 with hva_ hvn_ hvc_
            rw [hva_] at ge665_0
            rw [hvc_] at ul665_0
            have HL665_0 := q_ (show Kd.V (Kd.int .u8) 5 _ w.heap.size _ _ (rd_L4 t653 x60_2) from Kd.V_mk ul665_0 ge665_0)
            clear hva_ hvn_ hvc_ ge665_0 ul665_0
            clear hcc665 hce665
            have HR665_0 := Aside0.mk hi665_0
            have HC665_0 := Aside0.mk hl665_0
            clear hi665_0 hl665_0
            replace p665 := eq_true p665
            replace q665 := eq_true q665
            obtain ⟨Ao34, co34, eo34⟩ := Kd.N_slice HO_15.out
            (first | subst eo34 | (injection eo34 with f1_ f2_ f3_; have f4_ := f1_.symm; have f5_ := f3_.symm; clear f1_ f2_ f3_; subst f4_; subst f5_))
            have p666 : 0 ≤ (x60_2 : Int) := od_
            have q666 : x60_2 < (t661.length : Int) := od_
            obtain ⟨ad666, A666_0, c666_0, e666, hx666_0, hl666_0, hi666_0⟩ := at_L4 (Kd.N_reads' HO_15.out).2.2 x60_2 p666 q666
            cases e666
            obtain ⟨ce666, hce666, hMe666, hcc666⟩ := Kd.N_get HO_15.out [] x60_2 p666 (by first | exact q666 | exact od_ | (have e_ := (Kd.N_reads' HO_15.out).1; omega))
            obtain ⟨ua666_0, uc666_0, rfl, ul666_0, ge666_0⟩ := Kd.FK_slice_open hMe666
            have hv666_0 := hcc666 0 _ rfl
            rw [Nat.add_zero, show ((Kd.slice 5 (Kd.int .u8))).sz = 1 from rfl, Nat.mul_one] at hv666_0
            replace hv666_0 := Option.some.inj (hv666_0.symm.trans hx666_0)
            injection hv666_0 with hva_ hvn_ hvc_
            rw [hva_] at ge666_0
            rw [hvc_] at ul666_0
            have HL666_0 := q_ (show Kd.V (Kd.int .u8) 5 _ w.heap.size _ _ (rd_L4 t661 x60_2) from Kd.V_mk ul666_0 ge666_0)
            clear hva_ hvn_ hvc_ ge666_0 ul666_0
            clear hcc666 hce666
            have HR666_0 := Aside0.mk hi666_0
            have HC666_0 := Aside0.mk hl666_0
            clear hi666_0 hl666_0
            replace p666 := eq_true p666
            replace q666 := eq_true q666
            have hcv35 := Kd.C_string (P := Try.prog) (A := A665_0) (c := c665_0) Try.underlying22 Try.underlying5 Try.underlying9 (by repeat (first | (with_reducible exact HR665_0.out) | (with_reducible refine Kd.C_alloc ?_ _) | (with_reducible refine Kd.C_drewN ?_ _) | (with_reducible refine Kd.C_drew ?_) | exact HR665_0.out))
            have hcv36 := Kd.C_string (P := Try.prog) (A := A666_0) (c := c666_0) Try.underlying22 Try.underlying5 Try.underlying9 (by repeat (first | (with_reducible exact HR666_0.out) | (with_reducible refine Kd.C_alloc ?_ _) | (with_reducible refine Kd.C_drewN ?_ _) | (with_reducible refine Kd.C_drew ?_) | exact HR666_0.out))
            refine start_ (n := 12) (S := fun w' => (w'.cell? (ad665.add (x60_2).toNat) = some (.slice A665_0 (rd_L4 t653 x60_2).length c665_0) ∧ w'.cell? (ad666.add (x60_2).toNat) = some (.slice A666_0 (rd_L4 t661 x60_2).length c666_0)) ∧ Kd.C (Kd.int .u8) w' A665_0 (rd_L4 t653 x60_2).length (rd_L4 t653 x60_2) ∧ Kd.C (Kd.int .u8) w' A666_0 (rd_L4 t661 x60_2).length (rd_L4 t661 x60_2)) (ds := []) (bq_ 0 12) (by kernel_rfl) rfl rfl ⟨⟨hx665_0, hx666_0⟩, Kd.C_drew HR665_0.out, Kd.C_drew HR666_0.out⟩ (fun hHeld => ?_); refine with_tabW impl_PartAt.tab11 impl_PartAt.bits11 (fun HT_ HW_ => ?_)
            generalize wr.drew = w33 at HO_13 HO_15 BK650 HB HL665_0 HL666_0 HR665_0 HR666_0 hx665_0 hx666_0 hHeld ⊢
            refine p_ 0 63 HT_ ?_; refine p_ 1 64 HT_ ?_; refine p_ 2 65 HT_ ?_; refine p_ 5 68 HT_ ?_; refine p_ 6 69 HT_ ?_; refine p_ 7 70 HT_ ?_; refine k_ 3 66 HT_ HW_ hHeld ?_
            refine take_ (i := 4) (N := some 67) (v := ?_) (a' := ?_) (bq_ 8 4) rfl rfl (take_ofW HT_.out HW_.out (by kernel_rfl)) (fun _ _ _ h => h) (Or.inl ⟨by rfl, ?_⟩) hHeld ?_ ?_
            rotate_left
            · rintro w' ⟨_, sc⟩
              have hcv_ := Kd.C_string (P := Try.prog) (A := A665_0) (c := c665_0) Try.underlying22 Try.underlying5 Try.underlying9 sc.1
              go_simp
              with_reducible rfl
            rotate_left
            · simp only [Act.put, sa_, sz_, ss_, i64_w, i32_w]; rfl
            refine p_ 10 18 HT_ ?_; refine k_ 8 71 HT_ HW_ hHeld ?_
            refine take_ (i := 9) (N := some 72) (v := ?_) (a' := ?_) (bq_ 11 1) rfl rfl (take_ofW HT_.out HW_.out (by kernel_rfl)) (fun _ _ _ h => h) (Or.inl ⟨by rfl, ?_⟩) hHeld ?_ ?_
            rotate_left
            · rintro w' ⟨_, sc⟩
              have hcv_ := Kd.C_string (P := Try.prog) (A := A666_0) (c := c666_0) Try.underlying22 Try.underlying5 Try.underlying9 sc.2
              go_simp
              with_reducible rfl
            rotate_left
            · simp only [Act.put, sa_, sz_, ss_, i64_w, i32_w]; rfl
            refine p_ 11 19 HT_ ?_
            refine done_ (done_of HT_.out (by kernel_rfl)) ?_
            try go_wp2_with (first | ((with_reducible refine gate_callee (f := 44) rfl ?_); refine gl_ (some 75) Try.func44 #[.string (strOfNums (rd_L4 t653 x60_2)), .string (strOfNums (rd_L4 t661 x60_2))] rfl al_ ?_; (with_reducible refine (impl_isFull.calls k2 (strOfNums (rd_L4 t653 x60_2)) (strOfNums (rd_L4 t661 x60_2)) true _ A31.out).mono ?_); rintro e w38 ⟨rfl, hb⟩; refine ⟨_, rfl, ?_⟩; replace HO_13 := q_ (Kd.N_below (by (with_reducible repeat (first | apply Kd.N_alloc | apply Kd.N_drewN | apply Kd.N_drew)); exact HO_13.out) hb); replace HO_15 := q_ (Kd.N_below (by (with_reducible repeat (first | apply Kd.N_alloc | apply Kd.N_drewN | apply Kd.N_drew)); exact HO_15.out) hb); replace HL665_0 := q_ (Kd.V_below (by (with_reducible repeat (first | apply Kd.V_alloc | apply Kd.V_drewN | apply Kd.V_drew)); exact HL665_0.out) hb); replace HL666_0 := q_ (Kd.V_below (by (with_reducible repeat (first | apply Kd.V_alloc | apply Kd.V_drewN | apply Kd.V_drew)); exact HL666_0.out) hb); replace BK650 := q_ (bb_ BK650.out hb); replace HB := q_ (below_step (bs_ HB.out GE650.out) hb); (try clear hb)))
            go_ret3
            exact ⟨rf_, bs_ HB.out GE650.out⟩
          replace c32 := Bool.eq_false_iff.mpr c32
          subst c32
          rw [if_neg (show ¬ (false = true) by decide)] at H
          have H' := Aside0.mk H
          clear H
          try go_wp2
          replace HO_13 := q_ (Kd.N_drew HO_13.out)
          replace HO_15 := q_ (Kd.N_drew HO_15.out)
          replace BK650 := q_ (blk_drew BK650.out)
          replace HB := q_ (below_drew1 HB.out)
          have p665 : 0 ≤ (x60_2 : Int) := od_
          have q665 : x60_2 < (t653.length : Int) := od_
          obtain ⟨ad665, A665_0, c665_0, e665, hx665_0, hl665_0, hi665_0⟩ := at_L4 (Kd.N_reads' HO_13.out).2.2 x60_2 p665 q665
          cases e665
          obtain ⟨ce665, hce665, hMe665, hcc665⟩ := Kd.N_get HO_13.out [] x60_2 p665 (by first | exact q665 | exact od_ | (have e_ := (Kd.N_reads' HO_13.out).1; omega))
          obtain ⟨ua665_0, uc665_0, rfl, ul665_0, ge665_0⟩ := Kd.FK_slice_open hMe665
          have hv665_0 := hcc665 0 _ rfl
          rw [Nat.add_zero, show ((Kd.slice 5 (Kd.int .u8))).sz = 1 from rfl, Nat.mul_one] at hv665_0
          replace hv665_0 := Option.some.inj (hv665_0.symm.trans hx665_0)
          injection hv665_0 with hva_ hvn_ hvc_
          rw [hva_] at ge665_0
          rw [hvc_] at ul665_0
          have HL665_0 := q_ (show Kd.V (Kd.int .u8) 5 _ w.heap.size _ _ (rd_L4 t653 x60_2) from Kd.V_mk ul665_0 ge665_0)
          clear hva_ hvn_ hvc_ ge665_0 ul665_0
          clear hcc665 hce665
          have HR665_0 := Aside0.mk hi665_0
          have HC665_0 := Aside0.mk hl665_0
          clear hi665_0 hl665_0
          replace p665 := eq_true p665
          replace q665 := eq_true q665
          obtain ⟨Ao40, co40, eo40⟩ := Kd.N_slice HO_15.out
          (first | subst eo40 | (injection eo40 with f1_ f2_ f3_; have f4_ := f1_.symm; have f5_ := f3_.symm; clear f1_ f2_ f3_; subst f4_; subst f5_))
          have p666 : 0 ≤ (x60_2 : Int) := od_
          have q666 : x60_2 < (t661.length : Int) := od_
          obtain ⟨ad666, A666_0, c666_0, e666, hx666_0, hl666_0, hi666_0⟩ := at_L4 (Kd.N_reads' HO_15.out).2.2 x60_2 p666 q666
          cases e666
          obtain ⟨ce666, hce666, hMe666, hcc666⟩ := Kd.N_get HO_15.out [] x60_2 p666 (by first | exact q666 | exact od_ | (have e_ := (Kd.N_reads' HO_15.out).1; omega))
          obtain ⟨ua666_0, uc666_0, rfl, ul666_0, ge666_0⟩ := Kd.FK_slice_open hMe666
          have hv666_0 := hcc666 0 _ rfl
          rw [Nat.add_zero, show ((Kd.slice 5 (Kd.int .u8))).sz = 1 from rfl, Nat.mul_one] at hv666_0
          replace hv666_0 := Option.some.inj (hv666_0.symm.trans hx666_0)
          injection hv666_0 with hva_ hvn_ hvc_
          rw [hva_] at ge666_0
          rw [hvc_] at ul666_0
          have HL666_0 := q_ (show Kd.V (Kd.int .u8) 5 _ w.heap.size _ _ (rd_L4 t661 x60_2) from Kd.V_mk ul666_0 ge666_0)
          clear hva_ hvn_ hvc_ ge666_0 ul666_0
          clear hcc666 hce666
          have HR666_0 := Aside0.mk hi666_0
          have HC666_0 := Aside0.mk hl666_0
          clear hi666_0 hl666_0
          replace p666 := eq_true p666
          replace q666 := eq_true q666
          have hcv41 := Kd.C_string (P := Try.prog) (A := A665_0) (c := c665_0) Try.underlying22 Try.underlying5 Try.underlying9 (by repeat (first | (with_reducible exact HR665_0.out) | (with_reducible refine Kd.C_alloc ?_ _) | (with_reducible refine Kd.C_drewN ?_ _) | (with_reducible refine Kd.C_drew ?_) | exact HR665_0.out))
          have hcv42 := Kd.C_string (P := Try.prog) (A := A666_0) (c := c666_0) Try.underlying22 Try.underlying5 Try.underlying9 (by repeat (first | (with_reducible exact HR666_0.out) | (with_reducible refine Kd.C_alloc ?_ _) | (with_reducible refine Kd.C_drewN ?_ _) | (with_reducible refine Kd.C_drew ?_) | exact HR666_0.out))
          refine start_ (n := 12) (S := fun w' => (w'.cell? (ad665.add (x60_2).toNat) = some (.slice A665_0 (rd_L4 t653 x60_2).length c665_0) ∧ w'.cell? (ad666.add (x60_2).toNat) = some (.slice A666_0 (rd_L4 t661 x60_2).length c666_0)) ∧ Kd.C (Kd.int .u8) w' A665_0 (rd_L4 t653 x60_2).length (rd_L4 t653 x60_2) ∧ Kd.C (Kd.int .u8) w' A666_0 (rd_L4 t661 x60_2).length (rd_L4 t661 x60_2)) (ds := []) (bq_ 0 12) (by kernel_rfl) rfl rfl ⟨⟨hx665_0, hx666_0⟩, Kd.C_drew HR665_0.out, Kd.C_drew HR666_0.out⟩ (fun hHeld => ?_); refine with_tabW impl_PartAt.tab11 impl_PartAt.bits11 (fun HT_ HW_ => ?_)
          generalize wr.drew = w39 at HO_13 HO_15 BK650 HB HL665_0 HL666_0 HR665_0 HR666_0 hx665_0 hx666_0 hHeld ⊢
          refine p_ 0 63 HT_ ?_; refine p_ 1 64 HT_ ?_; refine p_ 2 65 HT_ ?_; refine p_ 5 68 HT_ ?_; refine p_ 6 69 HT_ ?_; refine p_ 7 70 HT_ ?_; refine k_ 3 66 HT_ HW_ hHeld ?_
          refine take_ (i := 4) (N := some 67) (v := ?_) (a' := ?_) (bq_ 8 4) rfl rfl (take_ofW HT_.out HW_.out (by kernel_rfl)) (fun _ _ _ h => h) (Or.inl ⟨by rfl, ?_⟩) hHeld ?_ ?_
          rotate_left
          · rintro w' ⟨_, sc⟩
            have hcv_ := Kd.C_string (P := Try.prog) (A := A665_0) (c := c665_0) Try.underlying22 Try.underlying5 Try.underlying9 sc.1
            go_simp
            with_reducible rfl
          rotate_left
          · simp only [Act.put, sa_, sz_, ss_, i64_w, i32_w]; rfl
          refine p_ 10 18 HT_ ?_; refine k_ 8 71 HT_ HW_ hHeld ?_
          refine take_ (i := 9) (N := some 72) (v := ?_) (a' := ?_) (bq_ 11 1) rfl rfl (take_ofW HT_.out HW_.out (by kernel_rfl)) (fun _ _ _ h => h) (Or.inl ⟨by rfl, ?_⟩) hHeld ?_ ?_
          rotate_left
          · rintro w' ⟨_, sc⟩
            have hcv_ := Kd.C_string (P := Try.prog) (A := A666_0) (c := c666_0) Try.underlying22 Try.underlying5 Try.underlying9 sc.2
            go_simp
            with_reducible rfl
          rotate_left
          · simp only [Act.put, sa_, sz_, ss_, i64_w, i32_w]; rfl
          refine p_ 11 19 HT_ ?_
          refine done_ (done_of HT_.out (by kernel_rfl)) ?_
          try go_wp2_with (first | ((with_reducible refine gate_callee (f := 44) rfl ?_); refine gl_ (some 75) Try.func44 #[.string (strOfNums (rd_L4 t653 x60_2)), .string (strOfNums (rd_L4 t661 x60_2))] rfl al_ ?_; (with_reducible refine (impl_isFull.calls k2 (strOfNums (rd_L4 t653 x60_2)) (strOfNums (rd_L4 t661 x60_2)) false _ A31.out).mono ?_); rintro e w44 ⟨rfl, hb⟩; refine ⟨_, rfl, ?_⟩; replace HO_13 := q_ (Kd.N_below (by (with_reducible repeat (first | apply Kd.N_alloc | apply Kd.N_drewN | apply Kd.N_drew)); exact HO_13.out) hb); replace HO_15 := q_ (Kd.N_below (by (with_reducible repeat (first | apply Kd.N_alloc | apply Kd.N_drewN | apply Kd.N_drew)); exact HO_15.out) hb); replace HL665_0 := q_ (Kd.V_below (by (with_reducible repeat (first | apply Kd.V_alloc | apply Kd.V_drewN | apply Kd.V_drew)); exact HL665_0.out) hb); replace HL666_0 := q_ (Kd.V_below (by (with_reducible repeat (first | apply Kd.V_alloc | apply Kd.V_drewN | apply Kd.V_drew)); exact HL666_0.out) hb); replace BK650 := q_ (bb_ BK650.out hb); replace HB := q_ (below_step (bs_ HB.out GE650.out) hb); (try clear hb)))
          go_roundg k2
          case measure => have := HJ5.out; have := HK2.out; omega
          case rel => exact ⟨(wrap64 (x60_2 + 1)), rs_, H', ⟨by have := HJ5.out; have := HK2.out; omega⟩, ⟨by (with_reducible repeat (first | apply Kd.N_alloc | apply Kd.N_drewN | apply Kd.N_drew)); exact HO_13.out⟩, ⟨by (with_reducible repeat (first | apply Kd.N_alloc | apply Kd.N_drewN | apply Kd.N_drew)); exact HO_15.out⟩, ⟨by (with_reducible repeat (first | refine blk_drewN ?_ _ | refine blk_drew ?_ | refine blk_alloc ?_ _)); exact BK650.out⟩, ⟨bs_ HB.out GE650.out⟩⟩
      · replace c14 := Bool.eq_false_iff.mpr c14
        subst c14
        rw [if_neg (show ¬ (false = true) by decide)] at H
        simp only [Option.some.injEq, Prod.mk.injEq] at H
        obtain ⟨rfl, rfl, rfl⟩ := H
        obtain ⟨hcz74_0, hcz74_1, hfz74_0, hfz74_1⟩ := bx2_ BK650.out
        go_wp2_with (first | ((with_reducible refine gate_callee (f := 42) rfl ?_); refine gl_ (some 36) Try.func42 #[.agg #[.string a1_0, .string a1_1], .int .i64 a2, .int .i64 a3, .slice A4 l4.length c4] rfl al_ ?_; (with_reducible refine (impl_wayTo.calls kj5 a1_0 a1_1 a2 a3 _ _ l4 t653 false _ ?side1 ?side2 A13.out).mono ?_); (case side1 => exact kc_ (Kd.C_below HR4.out HB.out)); (case side2 => exact HC4.out); rintro e w75 ⟨v654, rfl, ho0, hb⟩; refine ⟨_, rfl, ?_⟩; have HO655 := q_ (Kd.N_lower (Kd.N_mono (ok' := fun k_ => k_ ≠ gb650) ho0 (fun k_ hk_ => (Kd.freshB (g := gb650) (o := .cells #[.string a1_0, .string a1_1] 26 (0, 0)) (bk_ BK650.out) k_ hk_))) (below_size (bs_ HB.out GE650.out))); replace BK650 := q_ (bb_ BK650.out hb); replace HB := q_ (below_step (bs_ HB.out GE650.out) hb); (try clear hb); (try clear ho0)))
        go_ret3
        exact ⟨rf_, bs_ HB.out GE650.out⟩

/-! ###  spec_l1In: function 47 -/
def spec_l1In.f (a0 : Int) (a1 : Int) (a2 : Int) : Option (Bool) := if a0 ≥ a1 then (some (decide (a0 ≤ a2))) else (some false)
set_option maxHeartbeats 8000000 in
set_option maxRecDepth 100000 in
theorem spec_l1In.calls (a0 : Int) (a1 : Int) (a2 : Int) (r : Bool) (w : World) (h : spec_l1In.f a0 a1 a2 = some r) :
  Calls Try.prog 47 #[.int .i64 a0, .int .i64 a1, .int .i64 a2] w fun e w' => e = .returned (.bool r) ∧ Drawn0 w w' := by
  have H := h
  clear h
  unfold spec_l1In.f at H
  by_cases c4 : a0 ≥ a1
  · rw [if_pos c4] at H
    have c4b0 : decide (a1 ≤ a0) = true := decide_eq_true c4
    clear c4
    obtain rfl := Option.some.inj H
    go_enter Try.func47, Try.ntmps47
    go_wp2
    go_ret
    exact ⟨rs_, by repeat (first | exact Drawn0.refl _ | apply Drawn0.step)⟩
  · rw [if_neg c4] at H
    have c4b0 : decide (a1 ≤ a0) = false := decide_eq_false c4
    clear c4
    obtain rfl := Option.some.inj H
    go_enter Try.func47, Try.ntmps47
    go_wp2
    go_ret
    exact ⟨rs_, by repeat (first | exact Drawn0.refl _ | apply Drawn0.step)⟩

/-! ###  spec_KeyOk: function 97 -/
def spec_KeyOk.l0 : Nat → ByteArray → Int → Option (Bool)
  | 0, _, _ => none
  | k + 1, x0, x3 => if x3 < (x0.size : Int) then (if 0 ≤ x3 then ((spec_l1In.f (wrap64 (bt x0 x3)) 97 122).bind fun t681 => (if t681 = true then (spec_KeyOk.l0 k x0 (wrap64 (x3 + 1))) else ((spec_l1In.f (wrap64 (bt x0 x3)) 48 57).bind fun t682 => (if t682 = true then (spec_KeyOk.l0 k x0 (wrap64 (x3 + 1))) else (some false))))) else (none)) else ((spec_l1In.f (x0.size : Int) 1 12).bind fun t680 => (some t680))
def spec_KeyOk.f (k : Nat) (a0 : ByteArray) : Option (Bool) := spec_KeyOk.l0 k a0 0
set_option maxHeartbeats 8000000 in
set_option maxRecDepth 100000 in
theorem spec_KeyOk.calls (k : Nat) (a0 : ByteArray) (r : Bool) (w : World) (h : spec_KeyOk.f k a0 = some r) :
  Calls Try.prog 97 #[.string a0] w fun e w' => e = .returned (.bool r) ∧ Drawn0 w w' := by
  have H := h
  clear h
  unfold spec_KeyOk.f at H
  have H' := Aside0.mk H
  clear H
  go_enter Try.func97, Try.ntmps97
  go_wp2
  go_loopg [3] k (fun kq v3 w' => ∃ (x3_1 : Int), v3 = .int .i64 x3_1 ∧ Aside0 (spec_KeyOk.l0 kq a0 x3_1 = some r) ∧ Aside0 (kq ≤ k) ∧ Drawn0 w w')
  case atStart => exact ⟨(0), rs_, H', ⟨Nat.le_refl _⟩, by repeat (first | exact Drawn0.refl _ | apply Drawn0.step)⟩
  case round =>
   clear H'
   obtain ⟨x3_1, rfl, HA, HK1, ⟨m1, rfl⟩⟩ := hrel
   cases gk with
   | zero => exact absurd HA.out (by simp [spec_KeyOk.l0])
   | succ k1 =>
    have H := HA.out
    clear HA
    simp only [spec_KeyOk.l0] at H
    by_cases c2 : x3_1 < (a0.size : Int)
    · rw [if_pos c2] at H
      have c2b0 := decide_eq_true c2
      clear c2
      obtain ⟨c3, H⟩ := ip_ H
      have c3b0 : decide (0 ≤ x3_1) = true := decide_eq_true c3
      clear c3
      obtain ⟨t681, A5, H⟩ := bo_ H
      by_cases c6 : t681 = true
      · subst c6
        rw [if_pos rfl] at H
        have H' := Aside0.mk H
        clear H
        have p4 : 0 ≤ (x3_1 : Int) := od_
        have q4 : x3_1 < (a0.size : Int) := od_
        have hx4 := bt_at a0 x3_1
        replace p4 := eq_true p4
        replace q4 := eq_true q4
        go_wp2_with (first | ((with_reducible refine gate_callee (f := 47) rfl ?_); refine gl_ (some 14) Try.func47 #[.int .i64 (wrap64 (bt a0 x3_1)), .int .i64 97, .int .i64 122] rfl al_ ?_; (with_reducible refine (spec_l1In.calls (wrap64 (bt a0 x3_1)) 97 122 true _ A5.out).mono ?_); rintro e w' ⟨rfl, ⟨nd, rfl⟩⟩; refine ⟨_, rfl, ?_⟩))
        go_roundg k1
        case measure => have := HK1.out; omega
        case rel => exact ⟨(wrap64 (x3_1 + 1)), rs_, H', ⟨by have := HK1.out; omega⟩, by repeat (first | exact Drawn0.refl _ | apply Drawn0.step)⟩
      replace c6 := Bool.eq_false_iff.mpr c6
      subst c6
      rw [if_neg (show ¬ (false = true) by decide)] at H
      obtain ⟨t682, A8, H⟩ := bo_ H
      by_cases c9 : t682 = true
      rotate_left
      · replace c9 := Bool.eq_false_iff.mpr c9
        subst c9
        rw [if_neg (show ¬ (false = true) by decide)] at H
        obtain rfl := Option.some.inj H
        have p4 : 0 ≤ (x3_1 : Int) := od_
        have q4 : x3_1 < (a0.size : Int) := od_
        have hx4 := bt_at a0 x3_1
        replace p4 := eq_true p4
        replace q4 := eq_true q4
        go_wp2_with (first | ((with_reducible refine gate_callee (f := 47) rfl ?_); refine gl_ (some 14) Try.func47 #[.int .i64 (wrap64 (bt a0 x3_1)), .int .i64 97, .int .i64 122] rfl al_ ?_; (with_reducible refine (spec_l1In.calls (wrap64 (bt a0 x3_1)) 97 122 false _ A5.out).mono ?_); rintro e w' ⟨rfl, ⟨nd, rfl⟩⟩; refine ⟨_, rfl, ?_⟩; have p7 : 0 ≤ (x3_1 : Int) := od_; have q7 : x3_1 < (a0.size : Int) := od_; have hx7 := bt_at a0 x3_1; replace p7 := eq_true p7; replace q7 := eq_true q7) | (go_at_call 47; (with_reducible refine (spec_l1In.calls (wrap64 (bt a0 x3_1)) 48 57 false _ A8.out).mono ?_); rintro e w' ⟨rfl, ⟨nd, rfl⟩⟩))
        go_ret
        exact ⟨rs_, by repeat (first | exact Drawn0.refl _ | apply Drawn0.step)⟩
      subst c9
      rw [if_pos rfl] at H
      have H' := Aside0.mk H
      clear H
      have p4 : 0 ≤ (x3_1 : Int) := od_
      have q4 : x3_1 < (a0.size : Int) := od_
      have hx4 := bt_at a0 x3_1
      replace p4 := eq_true p4
      replace q4 := eq_true q4
      go_wp2_with (first | ((with_reducible refine gate_callee (f := 47) rfl ?_); refine gl_ (some 14) Try.func47 #[.int .i64 (wrap64 (bt a0 x3_1)), .int .i64 97, .int .i64 122] rfl al_ ?_; (with_reducible refine (spec_l1In.calls (wrap64 (bt a0 x3_1)) 97 122 false _ A5.out).mono ?_); rintro e w' ⟨rfl, ⟨nd, rfl⟩⟩; refine ⟨_, rfl, ?_⟩; have p7 : 0 ≤ (x3_1 : Int) := od_; have q7 : x3_1 < (a0.size : Int) := od_; have hx7 := bt_at a0 x3_1; replace p7 := eq_true p7; replace q7 := eq_true q7) | (go_at_call 47; (with_reducible refine (spec_l1In.calls (wrap64 (bt a0 x3_1)) 48 57 true _ A8.out).mono ?_); rintro e w' ⟨rfl, ⟨nd, rfl⟩⟩))
      go_roundg k1
      case measure => have := HK1.out; omega
      case rel => exact ⟨(wrap64 (x3_1 + 1)), rs_, H', ⟨by have := HK1.out; omega⟩, by repeat (first | exact Drawn0.refl _ | apply Drawn0.step)⟩
    · rw [if_neg c2] at H
      have c2b0 := decide_eq_false c2
      clear c2
      obtain ⟨t680, A10, H⟩ := bo_ H
      obtain rfl := Option.some.inj H
      go_wp2_with (first | ((with_reducible refine gate_callee (f := 47) rfl ?_); refine gl_ (some 26) Try.func47 #[.int .i64 (a0.size : Int), .int .i64 1, .int .i64 12] rfl al_ ?_; (with_reducible refine (spec_l1In.calls (a0.size : Int) 1 12 t680 _ A10.out).mono ?_); rintro e w' ⟨rfl, ⟨nd, rfl⟩⟩; refine ⟨_, rfl, ?_⟩))
      go_ret
      exact ⟨rs_, by repeat (first | exact Drawn0.refl _ | apply Drawn0.step)⟩

/-! ###  spec_PairOk: function 54 -/
def spec_PairOk.f (k : Nat) (a0_0 : ByteArray) (a0_1 : ByteArray) : Option (Bool) := (spec_KeyOk.f k a0_0).bind fun t684 => (if t684 = true then (some (decide ((a0_1.size : Int) ≤ 20))) else (some false))
set_option maxHeartbeats 8000000 in
set_option maxRecDepth 100000 in
theorem spec_PairOk.calls (k : Nat) (a0_0 : ByteArray) (a0_1 : ByteArray) (r : Bool) (w : World) (h : spec_PairOk.f k a0_0 a0_1 = some r) :
  Calls Try.prog 54 #[.agg #[.string a0_0, .string a0_1]] w fun e w' => e = .returned (.bool r) ∧ Below w.heap.size w w' := by
  have hu26 := Try.underlying26
  have HB := q_ (Below.refl w.heap.size w)
  have H := h
  clear h
  unfold spec_PairOk.f at H
  obtain ⟨t684, A2, H⟩ := bo_ H
  by_cases c3 : t684 = true
  · subst c3
    rw [if_pos rfl] at H
    obtain rfl := Option.some.inj H
    go_enter Try.func54, Try.ntmps54
    go_wp2_with (first | ((with_reducible refine gate_dst (N := 1) rfl ?_); (try (refine gate_guard (by rfl) ?_; dsimp only)); refine box_event rfl (N := 1) rfl (cs := #[.string a0_0, .string a0_1]) (t := 26) hr_ ?_; intro gb683 hg w4 hbox hb; have BK683 := q_ (hbox); have GW683 := q_ ((by rw [hg]; exact (below_size (be_ HB.out)) : w.heap.size ≤ gb683)); have GE683 := q_ ((by rw [hg]; exact (below_size (be_ HB.out)) : w.heap.size ≤ gb683)); replace HB := q_ (below_step (be_ HB.out) hb); clear hb hbox hg; obtain ⟨hcz5_0, hcz5_1, hfz5_0, hfz5_1⟩ := bx2_ BK683.out) | ((with_reducible refine gate_callee (f := 97) rfl ?_); refine gl_ (some 5) Try.func97 #[.string a0_0] rfl al_ ?_; (with_reducible refine (spec_KeyOk.calls k a0_0 true _ A2.out).mono ?_); rintro e w' ⟨rfl, ⟨nd, rfl⟩⟩; refine ⟨_, rfl, ?_⟩))
    go_ret
    exact ⟨rf_, bs_ HB.out GE683.out⟩
  · replace c3 := Bool.eq_false_iff.mpr c3
    subst c3
    rw [if_neg (show ¬ (false = true) by decide)] at H
    obtain rfl := Option.some.inj H
    go_enter Try.func54, Try.ntmps54
    go_wp2_with (first | ((with_reducible refine gate_dst (N := 1) rfl ?_); (try (refine gate_guard (by rfl) ?_; dsimp only)); refine box_event rfl (N := 1) rfl (cs := #[.string a0_0, .string a0_1]) (t := 26) hr_ ?_; intro gb683 hg w6 hbox hb; have BK683 := q_ (hbox); have GW683 := q_ ((by rw [hg]; exact (below_size (be_ HB.out)) : w.heap.size ≤ gb683)); have GE683 := q_ ((by rw [hg]; exact (below_size (be_ HB.out)) : w.heap.size ≤ gb683)); replace HB := q_ (below_step (be_ HB.out) hb); clear hb hbox hg; obtain ⟨hcz7_0, hcz7_1, hfz7_0, hfz7_1⟩ := bx2_ BK683.out) | ((with_reducible refine gate_callee (f := 97) rfl ?_); refine gl_ (some 5) Try.func97 #[.string a0_0] rfl al_ ?_; (with_reducible refine (spec_KeyOk.calls k a0_0 false _ A2.out).mono ?_); rintro e w' ⟨rfl, ⟨nd, rfl⟩⟩; refine ⟨_, rfl, ?_⟩))
    go_ret
    exact ⟨rf_, bs_ HB.out GE683.out⟩

end Go.Proofs.Ythkaifddpjjmaaa.P
