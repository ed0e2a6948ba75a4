-- Written by wip/xp/xp.py over the kit's print; Lean checks it.
import Derived.Test.YtbelaenekbflfaaStr
import Derived.Test.YtbelaenekbflfaaPx0
import Derived.Test.YtbelaenekbflfaaPx8
namespace Go.Proofs.Ytbelaenekbflfaa.P
open Go.RowKit Go.Proofs.YtbelaenekbflfaaW.PrintWords Go.Proofs.YtbelaenekbflfaaW.PrintLast Go.Proofs.YtbelaenekbflfaaW.PrintMore
attribute [local go_sem] max2_int min2_int max_two min_two max_three min_three max_four min_four   -- for this text's walks alone
set_option linter.unusedVariables false
set_option linter.unusedSimpArgs false

/-! ###  impl_PairsOk: function 49 -/
def impl_PairsOk.l0 : Nat → List (S39) → List (S39) → Int → Int → Option (Bool)
  | 0, _, _, _, _ => none
  | k + 1, x0, x5, x6, x7 => if x7 < x6 then (if 0 ≤ x7 then (if x7 < (x5.length : Int) then ((impl_PairOk.f k ((rd_T39 x5 x7).f0) ((rd_T39 x5 x7).f1)).bind fun t444 => (if t444 = true then (if x7 > 0 then (if 0 ≤ (wrap64 (x7 - 1)) then (if (wrap64 (x7 - 1)) < (x0.length : Int) then (if ((Op.bytesLess (((rd_T39 x0 (wrap64 (x7 - 1))).f0).toList) (((rd_T39 x5 x7).f0).toList)) = true) then (impl_PairsOk.l0 k x0 x5 x6 (wrap64 (x7 + 1))) else (some false)) else (none)) else (none)) else (impl_PairsOk.l0 k x0 x5 x6 (wrap64 (x7 + 1)))) else (some false))) else (none)) else (none)) else (some (decide ((x0.length : Int) ≤ 60)))
def impl_PairsOk.f (k : Nat) (l0 : List (S39)) : Option (Bool) := impl_PairsOk.l0 k l0 l0 (l0.length : Int) 0
def impl_PairsOk.T4 : Bool × List (List Nat × List Nat) := (true, [([], []), ([0], [0]), ([1], [1]), ([2, 1], [2]), ([3], [3]), ([4, 3], [3, 4]), ([5, 3, 3], [3, 5]), ([6], [6]), ([7, 6], [6, 7]), ([6], [6]), ([6], [6]), ([10, 6], [6, 10]), ([9, 11, 6], [6, 9, 11]), ([12, 6], [6, 12]), ([13, 6], [6, 13]), ([8, 14, 6], [6, 8, 14]), ([6, 15, 3], [3, 6, 15]), ([3, 16], [3, 16])])
def impl_PairsOk.B4 : List Nat := [0, 1, 3, 7, 15, 31, 63, 127, 255, 127, 127, 1151, 3711, 7807, 15999, 32767, 65535, 131071]
theorem impl_PairsOk.tab4 : rtab .any (opsOf Try.f49 4) = impl_PairsOk.T4 := by kernel_rfl
theorem impl_PairsOk.bits4 : waitsOk impl_PairsOk.T4.2 impl_PairsOk.B4 = true := by kernel_rfl
set_option maxHeartbeats 8000000 in
set_option maxRecDepth 100000 in
theorem impl_PairsOk.calls (k : Nat) (A0 : Option Addr) (c0 : Nat) (l0 : List (S39)) (r : Bool) (w : World) (hr0 : Kd.C k39 w A0 l0.length l0) (hc0 : l0.length ≤ c0) (h : impl_PairsOk.f k l0 = some r) :
  Calls Try.prog 49 #[.slice A0 l0.length c0] w fun e w' => e = .returned (.bool r) ∧ Below w.heap.size w w' := by
  have hu39 := Try.underlying39
  have HR0 := Aside0.mk hr0
  have HC0 := Aside0.mk hc0
  clear hr0 hc0
  have HB := Aside0.mk (Below.refl w.heap.size w)
  have H : (impl_PairsOk.l0 k l0 l0 (l0.length : Int) 0) = some r := h
  clear h
  have H' := Aside0.mk H
  clear H
  go_enter Try.func49, Try.ntmps49
  go_wp2
  go_loopg [7] k (fun kq v7 w' => ∃ (x7_1 : Int), v7 = .int .i64 x7_1 ∧ Aside0 (impl_PairsOk.l0 kq l0 l0 (l0.length : Int) x7_1 = some r) ∧ Aside0 (kq ≤ k) ∧ Aside0 (Below w.heap.size w w'))
  case atStart => exact ⟨(0), (by first | rfl | (simp; done) | (simp [*]; done)), H', ⟨Nat.le_refl _⟩, ⟨be_ HB.out⟩⟩
  case round =>
   clear H'
   obtain ⟨x7_1, rfl, HA, HK1, HB⟩ := hrel
   cases gk with
   | zero => exact absurd HA.out (by simp [impl_PairsOk.l0])
   | succ k1 =>
    have H := HA.out
    clear HA
    simp only [impl_PairsOk.l0] at H
    by_cases c2 : x7_1 < (l0.length : Int)
    · rw [if_pos c2] at H
      have c2b0 : decide (x7_1 < (l0.length : Int)) = true := decide_eq_true c2
      clear c2
      by_cases c3 : 0 ≤ x7_1
      rotate_left
      · rw [if_neg c3] at H; exact absurd H (by simp)
      rw [if_pos c3] at H
      have c3b0 : decide (0 ≤ x7_1) = true := decide_eq_true c3
      clear c3
      by_cases c4 : x7_1 < (l0.length : Int)
      rotate_left
      · rw [if_neg c4] at H; exact absurd H (by simp)
      rw [if_pos c4] at H
      have c4b0 : decide (x7_1 < (l0.length : Int)) = true := decide_eq_true c4
      clear c4
      replace H := Option.bind_eq_some_iff.mp H
      obtain ⟨t444, A50, H⟩ := H
      have A5 := Aside0.mk A50
      clear A50
      by_cases c6 : t444 = true
      · subst c6
        have H1 : (if x7_1 > 0 then (if 0 ≤ (wrap64 (x7_1 - 1)) then (if (wrap64 (x7_1 - 1)) < (l0.length : Int) then (if ((Op.bytesLess (((rd_T39 l0 (wrap64 (x7_1 - 1))).f0).toList) (((rd_T39 l0 x7_1).f0).toList)) = true) then (impl_PairsOk.l0 k1 l0 l0 (l0.length : Int) (wrap64 (x7_1 + 1))) else (some false)) else (none)) else (none)) else (impl_PairsOk.l0 k1 l0 l0 (l0.length : Int) (wrap64 (x7_1 + 1)))) = some r := by rw [if_pos rfl] at H; exact H
        clear H
        have H := H1
        clear H1
        by_cases c7 : x7_1 > 0
        · rw [if_pos c7] at H
          have c7b0 : decide (0 < x7_1) = true := decide_eq_true c7
          clear c7
          obtain ⟨ji8, hji8⟩ : ∃ j_ : Int, (wrap64 (x7_1 - 1)) = j_ := ⟨_, rfl⟩
          replace H : (if 0 ≤ (ji8) then (if (ji8) < (l0.length : Int) then (if ((Op.bytesLess (((rd_T39 l0 (ji8)).f0).toList) (((rd_T39 l0 x7_1).f0).toList)) = true) then (impl_PairsOk.l0 k1 l0 l0 (l0.length : Int) (wrap64 (x7_1 + 1))) else (some false)) else (none)) else (none)) = some r := by first | (rw [hji8] at H; exact H) | (simp only [hji8] at H ⊢; exact H)
          (try rw [hji8] at A5)
          have hji8w : (IntKind.i64.wrap (x7_1 - 1)) = ji8 := (i64_w _).trans hji8
          by_cases c9 : 0 ≤ (ji8)
          rotate_left
          · rw [if_neg c9] at H; exact absurd H (by simp)
          rw [if_pos c9] at H
          have c9b0 : decide (0 ≤ (ji8)) = true := decide_eq_true c9
          clear c9
          by_cases c10 : (ji8) < (l0.length : Int)
          rotate_left
          · rw [if_neg c10] at H; exact absurd H (by simp)
          rw [if_pos c10] at H
          have c10b0 : decide ((ji8) < (l0.length : Int)) = true := decide_eq_true c10
          clear c10
          by_cases c11 : ((Op.bytesLess (((rd_T39 l0 (ji8)).f0).toList) (((rd_T39 l0 x7_1).f0).toList)) = true)
          · rw [if_pos c11] at H
            have c11b0 : (Op.bytesLess (((rd_T39 l0 (ji8)).f0).toList) (((rd_T39 l0 x7_1).f0).toList)) = true := c11
            clear c11
            have H' := Aside0.mk H
            clear H
            have p442 : 0 ≤ (x7_1 : Int) := of_decide_eq_true (by first | (with_reducible assumption) | assumption)
            have q442 : x7_1 < (l0.length : Int) := of_decide_eq_true (by first | (with_reducible assumption) | assumption)
            obtain ⟨ad442, e442, hx442_0, hx442_1⟩ := at_T39 HR0.out x7_1 p442 q442
            cases e442
            replace hx442_0 := (HB.out.cell (World.block_lt_of_cell? w _ hx442_0)).trans hx442_0
            replace hx442_1 := (HB.out.cell (World.block_lt_of_cell? w _ hx442_1)).trans hx442_1
            replace p442 := eq_true p442
            replace q442 := eq_true q442
            try go_wp2_with (first | ((with_reducible refine gate_dst (N := 4) rfl ?_); refine box_event ?hg (N := 4) ?hd (cs := #[.string (⟨#[]⟩ : ByteArray), .string (⟨#[]⟩ : ByteArray)]) (t := 39) ?hr ?_; (case hd => rfl); (case hg => rfl); (case hr => first | (go_simp; done) | (go_simp; rfl)); intro gb443 hg w12 hbox hb; have n0_ := Aside0.mk (below_step (be_ HB.out) hb); have n1_ := Aside0.mk (hbox); have n2_ := Aside0.mk ((by rw [hg]; exact (below_size (be_ HB.out)) : w.heap.size ≤ gb443)); have n3_ := Aside0.mk ((by rw [hg]; exact (below_size (be_ HB.out)) : w.heap.size ≤ gb443)); clear HB; have HB := n0_; have BK443 := n1_; have GW443 := n2_; have GE443 := n3_; clear n0_ n1_ n2_ n3_; clear hb hbox hg; have hcz13_0 : w12.cell? ⟨gb443, 0, none⟩ = some (.string (⟨#[]⟩ : ByteArray)) := (blk_cell BK443.out 0).trans rfl; have hcz13_1 : w12.cell? ⟨gb443, 1, none⟩ = some (.string (⟨#[]⟩ : ByteArray)) := (blk_cell BK443.out 1).trans rfl; have hfz13_0 := blk_frozen BK443.out 0; have hfz13_1 := blk_frozen BK443.out 1))
            have n0_ : Aside0 (((w12.setCell ⟨gb443, 0, none⟩ (.string ((rd_T39 l0 x7_1).f0))).setCell ⟨gb443, 1, none⟩ (.string ((rd_T39 l0 x7_1).f1))).heap[gb443]? = some (.cells #[.string ((rd_T39 l0 x7_1).f0), .string ((rd_T39 l0 x7_1).f1)] 39 (0, 0))) := ⟨by (with_reducible repeat (first | refine blk_drewN ?_ _ | refine blk_drew ?_ | refine blk_alloc ?_ _)); refine blk_put (cs := #[.string ((rd_T39 l0 x7_1).f0), .string (⟨#[]⟩ : ByteArray)]) ?_ 1 _ rfl; (with_reducible repeat (first | refine blk_drewN ?_ _ | refine blk_drew ?_ | refine blk_alloc ?_ _)); refine blk_put (cs := #[.string (⟨#[]⟩ : ByteArray), .string (⟨#[]⟩ : ByteArray)]) ?_ 0 _ rfl; (with_reducible repeat (first | refine blk_drewN ?_ _ | refine blk_drew ?_ | refine blk_alloc ?_ _)); exact BK443.out⟩
            have n1_ : Aside0 (Below w.heap.size w ((w12.setCell ⟨gb443, 0, none⟩ (.string ((rd_T39 l0 x7_1).f0))).setCell ⟨gb443, 1, none⟩ (.string ((rd_T39 l0 x7_1).f1)))) := ⟨bs_ HB.out GE443.out⟩
            (try clear BK443)
            (try clear HB)
            generalize ((w12.setCell ⟨gb443, 0, none⟩ (.string ((rd_T39 l0 x7_1).f0))).setCell ⟨gb443, 1, none⟩ (.string ((rd_T39 l0 x7_1).f1))) = w14 at n0_ n1_ ⊢
            have BK443 := n0_
            have HB := n1_
            clear n0_ n1_
            have n0_ := Aside0.mk (blk_drew BK443.out)
            have n1_ := Aside0.mk (below_drew1 HB.out)
            clear BK443
            clear HB
            have BK443 := n0_
            have HB := n1_
            clear n0_ n1_
            have p445 : 0 ≤ ((ji8) : Int) := of_decide_eq_true (by first | (with_reducible assumption) | assumption)
            have q445 : (ji8) < (l0.length : Int) := of_decide_eq_true (by first | (with_reducible assumption) | assumption)
            obtain ⟨ad445, e445, hx445_0, hx445_1⟩ := at_T39 HR0.out (ji8) p445 q445
            have hw445_1 := hx445_1
            have hw445_0 := hx445_0
            obtain rfl : ad442 = ad445 := (by injection e445)
            replace hx445_0 := (HB.out.cell (World.block_lt_of_cell? w _ hx445_0)).trans hx445_0
            replace hx445_1 := (HB.out.cell (World.block_lt_of_cell? w _ hx445_1)).trans hx445_1
            replace p445 := eq_true p445
            replace q445 := eq_true q445
            refine start_ (n := 18) (S := fun w' => w'.cell? ⟨gb443, 0, none⟩ = some (.string ((rd_T39 l0 x7_1).f0)) ∧ w'.cell? ⟨gb443, 1, none⟩ = some (.string ((rd_T39 l0 x7_1).f1)) ∧ w'.cell? (ad442.add (((ji8)).toNat * 2)) = some (.string ((rd_T39 l0 (ji8)).f0)) ∧ w'.cell? ⟨(ad442.add (((ji8)).toNat * 2)).block, (ad442.add (((ji8)).toNat * 2)).off + 1, none⟩ = some (.string ((rd_T39 l0 (ji8)).f1))) (ds := []) (bq_ 0 18) (by kernel_rfl) rfl rfl ⟨(blk_cell BK443.out 0).trans rfl, (blk_cell BK443.out 1).trans rfl, ((HB.out.cell (World.block_lt_of_cell? w _ hw445_0)).trans hw445_0), ((HB.out.cell (World.block_lt_of_cell? w _ hw445_1)).trans hw445_1)⟩ (fun hHeld => ?_); refine with_tabW impl_PairsOk.tab4 impl_PairsOk.bits4 (fun HT_ HW_ => ?_)
            generalize w14.drew = w15 at BK443 HB hx445_0 hx445_1 hHeld ⊢
            refine take_ (i := 0) (N := some 12) (v := ?_) (a' := ?_) (bq_ 1 17) rfl rfl (take_ofW HT_.out HW_.out (by kernel_rfl)) (fun _ _ _ h => h) (Or.inl ⟨by rfl, ?_⟩) hHeld ?_ ?_
            rotate_left
            · rintro w' ⟨s0, s1, s2, s3⟩
              go_simp
              with_reducible rfl
            rotate_left
            · simp only [Act.put, sa_, sz_, ss_, i64_w, i32_w]; rfl
            refine on_ 1 (some 13) (bq_ 2 16) HT_ (fun K hK => ?_)
            refine goes_ Try.func78 (by kernel_rfl) rfl #[.agg #[.string ((rd_T39 l0 x7_1).f0), .string ((rd_T39 l0 x7_1).f1)]] (by rfl) rfl rfl al_ ?_
            with_reducible refine (impl_PairOk.calls k1 ((rd_T39 l0 x7_1).f0) ((rd_T39 l0 x7_1).f1) true _ A5.out).mono ?_
            rintro e w16 ⟨rfl, hb⟩
            refine ⟨_, rfl, ?_⟩
            have n0_ := Aside0.mk (blk_below (g := gb443) (o := .cells #[.string ((rd_T39 l0 x7_1).f0), .string ((rd_T39 l0 x7_1).f1)] 39 (0, 0)) (bk_ BK443.out) hb)
            have n1_ := Aside0.mk (below_step (bs_ HB.out GE443.out) hb)
            clear BK443
            clear HB
            have BK443 := n0_
            have HB := n1_
            clear n0_ n1_
            (try clear hb)
            (try clear hb2)
            (try clear hk)
            (try clear hi)
            refine hK.out _ _ ⟨(blk_cell BK443.out 0).trans rfl, (blk_cell BK443.out 1).trans rfl, ((HB.out.cell (World.block_lt_of_cell? w _ hw445_0)).trans hw445_0), ((HB.out.cell (World.block_lt_of_cell? w _ hw445_1)).trans hw445_1)⟩ (fun hHeld => ?_)
            clear hK K
            refine nm_ ?_
            refine pu_ 2 (some 14) (bq_ 3 15) HT_ ?_
            refine pu_ 3 (some 15) (bq_ 4 14) HT_ ?_
            refine pu_ 4 (some 16) (bq_ 5 13) HT_ ?_
            refine pu_ 5 (some 17) (bq_ 6 12) HT_ ?_
            refine pu_ 6 (some 18) (bq_ 7 11) HT_ ?_
            refine pu_ 7 (some 19) (bq_ 8 10) HT_ ?_
            refine pu_ 9 (some 21) #[true, true, true, true, true, true, true, true, false, true, false, false, false, false, false, false, false, false] HT_ ?_
            refine pu_ 10 (some 22) #[true, true, true, true, true, true, true, true, false, true, true, false, false, false, false, false, false, false] HT_ ?_
            refine pu_ 11 (some 23) #[true, true, true, true, true, true, true, true, false, true, true, true, false, false, false, false, false, false] HT_ ?_
            refine pu_ 12 (some 24) #[true, true, true, true, true, true, true, true, false, true, true, true, true, false, false, false, false, false] HT_ ?_
            refine pu_ 13 (some 25) #[true, true, true, true, true, true, true, true, false, true, true, true, true, true, false, false, false, false] HT_ ?_
            refine take_ (i := 8) (N := some 20) (v := ?_) (a' := ?_) (bq_ 14 4) rfl rfl (take_ofW HT_.out HW_.out (by kernel_rfl)) (fun _ _ _ h => h) (Or.inl ⟨by rfl, ?_⟩) hHeld ?_ ?_
            rotate_left
            · rintro w' ⟨s0, s1, s2, s3⟩
              go_simp
              with_reducible rfl
            rotate_left
            · simp only [Act.put, sa_, sz_, ss_, i64_w, i32_w]; rfl
            refine take_ (i := 14) (N := some 26) (v := ?_) (a' := ?_) (bq_ 15 3) rfl rfl (take_ofW HT_.out HW_.out (by kernel_rfl)) (fun _ _ _ h => h) (Or.inl ⟨by rfl, ?_⟩) hHeld ?_ ?_
            rotate_left
            · rintro w' ⟨s0, s1, s2, s3⟩
              go_simp
              with_reducible rfl
            rotate_left
            · simp only [Act.put, sa_, sz_, ss_, i64_w, i32_w]; rfl
            refine pu_ 15 (some 27) (bq_ 16 2) HT_ ?_
            refine pu_ 16 (some 28) (bq_ 17 1) HT_ ?_
            refine pu_ 17 (some 29) (bq_ 18 0) HT_ ?_
            refine done_ (done_of HT_.out (by kernel_rfl)) ?_
            try go_wp2
            go_roundg k1
            case measure => have := HK1.out; omega
            case rel => exact ⟨(wrap64 (x7_1 + 1)), (by first | rfl | (simp; done) | (simp [*]; done)), H', ⟨by have := HK1.out; omega⟩, ⟨bs_ HB.out GE443.out⟩⟩
          · rw [if_neg c11] at H
            have c11b0 : (Op.bytesLess (((rd_T39 l0 (ji8)).f0).toList) (((rd_T39 l0 x7_1).f0).toList)) = false := by simpa using c11
            clear c11
            obtain rfl := Option.some.inj H
            have p442 : 0 ≤ (x7_1 : Int) := of_decide_eq_true (by first | (with_reducible assumption) | assumption)
            have q442 : x7_1 < (l0.length : Int) := of_decide_eq_true (by first | (with_reducible assumption) | assumption)
            obtain ⟨ad442, e442, hx442_0, hx442_1⟩ := at_T39 HR0.out x7_1 p442 q442
            cases e442
            replace hx442_0 := (HB.out.cell (World.block_lt_of_cell? w _ hx442_0)).trans hx442_0
            replace hx442_1 := (HB.out.cell (World.block_lt_of_cell? w _ hx442_1)).trans hx442_1
            replace p442 := eq_true p442
            replace q442 := eq_true q442
            try go_wp2_with (first | ((with_reducible refine gate_dst (N := 4) rfl ?_); refine box_event ?hg (N := 4) ?hd (cs := #[.string (⟨#[]⟩ : ByteArray), .string (⟨#[]⟩ : ByteArray)]) (t := 39) ?hr ?_; (case hd => rfl); (case hg => rfl); (case hr => first | (go_simp; done) | (go_simp; rfl)); intro gb443 hg w17 hbox hb; have n0_ := Aside0.mk (below_step (be_ HB.out) hb); have n1_ := Aside0.mk (hbox); have n2_ := Aside0.mk ((by rw [hg]; exact (below_size (be_ HB.out)) : w.heap.size ≤ gb443)); have n3_ := Aside0.mk ((by rw [hg]; exact (below_size (be_ HB.out)) : w.heap.size ≤ gb443)); clear HB; have HB := n0_; have BK443 := n1_; have GW443 := n2_; have GE443 := n3_; clear n0_ n1_ n2_ n3_; clear hb hbox hg; have hcz18_0 : w17.cell? ⟨gb443, 0, none⟩ = some (.string (⟨#[]⟩ : ByteArray)) := (blk_cell BK443.out 0).trans rfl; have hcz18_1 : w17.cell? ⟨gb443, 1, none⟩ = some (.string (⟨#[]⟩ : ByteArray)) := (blk_cell BK443.out 1).trans rfl; have hfz18_0 := blk_frozen BK443.out 0; have hfz18_1 := blk_frozen BK443.out 1))
            have n0_ : Aside0 (((w17.setCell ⟨gb443, 0, none⟩ (.string ((rd_T39 l0 x7_1).f0))).setCell ⟨gb443, 1, none⟩ (.string ((rd_T39 l0 x7_1).f1))).heap[gb443]? = some (.cells #[.string ((rd_T39 l0 x7_1).f0), .string ((rd_T39 l0 x7_1).f1)] 39 (0, 0))) := ⟨by (with_reducible repeat (first | refine blk_drewN ?_ _ | refine blk_drew ?_ | refine blk_alloc ?_ _)); refine blk_put (cs := #[.string ((rd_T39 l0 x7_1).f0), .string (⟨#[]⟩ : ByteArray)]) ?_ 1 _ rfl; (with_reducible repeat (first | refine blk_drewN ?_ _ | refine blk_drew ?_ | refine blk_alloc ?_ _)); refine blk_put (cs := #[.string (⟨#[]⟩ : ByteArray), .string (⟨#[]⟩ : ByteArray)]) ?_ 0 _ rfl; (with_reducible repeat (first | refine blk_drewN ?_ _ | refine blk_drew ?_ | refine blk_alloc ?_ _)); exact BK443.out⟩
            have n1_ : Aside0 (Below w.heap.size w ((w17.setCell ⟨gb443, 0, none⟩ (.string ((rd_T39 l0 x7_1).f0))).setCell ⟨gb443, 1, none⟩ (.string ((rd_T39 l0 x7_1).f1)))) := ⟨bs_ HB.out GE443.out⟩
            (try clear BK443)
            (try clear HB)
            generalize ((w17.setCell ⟨gb443, 0, none⟩ (.string ((rd_T39 l0 x7_1).f0))).setCell ⟨gb443, 1, none⟩ (.string ((rd_T39 l0 x7_1).f1))) = w19 at n0_ n1_ ⊢
            have BK443 := n0_
            have HB := n1_
            clear n0_ n1_
            have n0_ := Aside0.mk (blk_drew BK443.out)
            have n1_ := Aside0.mk (below_drew1 HB.out)
            clear BK443
            clear HB
            have BK443 := n0_
            have HB := n1_
            clear n0_ n1_
            have p445 : 0 ≤ ((ji8) : Int) := of_decide_eq_true (by first | (with_reducible assumption) | assumption)
            have q445 : (ji8) < (l0.length : Int) := of_decide_eq_true (by first | (with_reducible assumption) | assumption)
            obtain ⟨ad445, e445, hx445_0, hx445_1⟩ := at_T39 HR0.out (ji8) p445 q445
            have hw445_1 := hx445_1
            have hw445_0 := hx445_0
            obtain rfl : ad442 = ad445 := (by injection e445)
            replace hx445_0 := (HB.out.cell (World.block_lt_of_cell? w _ hx445_0)).trans hx445_0
            replace hx445_1 := (HB.out.cell (World.block_lt_of_cell? w _ hx445_1)).trans hx445_1
            replace p445 := eq_true p445
            replace q445 := eq_true q445
            refine start_ (n := 18) (S := fun w' => w'.cell? ⟨gb443, 0, none⟩ = some (.string ((rd_T39 l0 x7_1).f0)) ∧ w'.cell? ⟨gb443, 1, none⟩ = some (.string ((rd_T39 l0 x7_1).f1)) ∧ w'.cell? (ad442.add (((ji8)).toNat * 2)) = some (.string ((rd_T39 l0 (ji8)).f0)) ∧ w'.cell? ⟨(ad442.add (((ji8)).toNat * 2)).block, (ad442.add (((ji8)).toNat * 2)).off + 1, none⟩ = some (.string ((rd_T39 l0 (ji8)).f1))) (ds := []) (bq_ 0 18) (by kernel_rfl) rfl rfl ⟨(blk_cell BK443.out 0).trans rfl, (blk_cell BK443.out 1).trans rfl, ((HB.out.cell (World.block_lt_of_cell? w _ hw445_0)).trans hw445_0), ((HB.out.cell (World.block_lt_of_cell? w _ hw445_1)).trans hw445_1)⟩ (fun hHeld => ?_); refine with_tabW impl_PairsOk.tab4 impl_PairsOk.bits4 (fun HT_ HW_ => ?_)
            generalize w19.drew = w20 at BK443 HB hx445_0 hx445_1 hHeld ⊢
            refine take_ (i := 0) (N := some 12) (v := ?_) (a' := ?_) (bq_ 1 17) rfl rfl (take_ofW HT_.out HW_.out (by kernel_rfl)) (fun _ _ _ h => h) (Or.inl ⟨by rfl, ?_⟩) hHeld ?_ ?_
            rotate_left
            · rintro w' ⟨s0, s1, s2, s3⟩
              go_simp
              with_reducible rfl
            rotate_left
            · simp only [Act.put, sa_, sz_, ss_, i64_w, i32_w]; rfl
            refine on_ 1 (some 13) (bq_ 2 16) HT_ (fun K hK => ?_)
            refine goes_ Try.func78 (by kernel_rfl) rfl #[.agg #[.string ((rd_T39 l0 x7_1).f0), .string ((rd_T39 l0 x7_1).f1)]] (by rfl) rfl rfl al_ ?_
            with_reducible refine (impl_PairOk.calls k1 ((rd_T39 l0 x7_1).f0) ((rd_T39 l0 x7_1).f1) true _ A5.out).mono ?_
            rintro e w21 ⟨rfl, hb⟩
            refine ⟨_, rfl, ?_⟩
            have n0_ := Aside0.mk (blk_below (g := gb443) (o := .cells #[.string ((rd_T39 l0 x7_1).f0), .string ((rd_T39 l0 x7_1).f1)] 39 (0, 0)) (bk_ BK443.out) hb)
            have n1_ := Aside0.mk (below_step (bs_ HB.out GE443.out) hb)
            clear BK443
            clear HB
            have BK443 := n0_
            have HB := n1_
            clear n0_ n1_
            (try clear hb)
            (try clear hb2)
            (try clear hk)
            (try clear hi)
            refine hK.out _ _ ⟨(blk_cell BK443.out 0).trans rfl, (blk_cell BK443.out 1).trans rfl, ((HB.out.cell (World.block_lt_of_cell? w _ hw445_0)).trans hw445_0), ((HB.out.cell (World.block_lt_of_cell? w _ hw445_1)).trans hw445_1)⟩ (fun hHeld => ?_)
            clear hK K
            refine nm_ ?_
            refine pu_ 2 (some 14) (bq_ 3 15) HT_ ?_
            refine pu_ 3 (some 15) (bq_ 4 14) HT_ ?_
            refine pu_ 4 (some 16) (bq_ 5 13) HT_ ?_
            refine pu_ 5 (some 17) (bq_ 6 12) HT_ ?_
            refine pu_ 6 (some 18) (bq_ 7 11) HT_ ?_
            refine pu_ 7 (some 19) (bq_ 8 10) HT_ ?_
            refine pu_ 9 (some 21) #[true, true, true, true, true, true, true, true, false, true, false, false, false, false, false, false, false, false] HT_ ?_
            refine pu_ 10 (some 22) #[true, true, true, true, true, true, true, true, false, true, true, false, false, false, false, false, false, false] HT_ ?_
            refine pu_ 11 (some 23) #[true, true, true, true, true, true, true, true, false, true, true, true, false, false, false, false, false, false] HT_ ?_
            refine pu_ 12 (some 24) #[true, true, true, true, true, true, true, true, false, true, true, true, true, false, false, false, false, false] HT_ ?_
            refine pu_ 13 (some 25) #[true, true, true, true, true, true, true, true, false, true, true, true, true, true, false, false, false, false] HT_ ?_
            refine take_ (i := 8) (N := some 20) (v := ?_) (a' := ?_) (bq_ 14 4) rfl rfl (take_ofW HT_.out HW_.out (by kernel_rfl)) (fun _ _ _ h => h) (Or.inl ⟨by rfl, ?_⟩) hHeld ?_ ?_
            rotate_left
            · rintro w' ⟨s0, s1, s2, s3⟩
              go_simp
              with_reducible rfl
            rotate_left
            · simp only [Act.put, sa_, sz_, ss_, i64_w, i32_w]; rfl
            refine take_ (i := 14) (N := some 26) (v := ?_) (a' := ?_) (bq_ 15 3) rfl rfl (take_ofW HT_.out HW_.out (by kernel_rfl)) (fun _ _ _ h => h) (Or.inl ⟨by rfl, ?_⟩) hHeld ?_ ?_
            rotate_left
            · rintro w' ⟨s0, s1, s2, s3⟩
              go_simp
              with_reducible rfl
            rotate_left
            · simp only [Act.put, sa_, sz_, ss_, i64_w, i32_w]; rfl
            refine pu_ 15 (some 27) (bq_ 16 2) HT_ ?_
            refine pu_ 16 (some 28) (bq_ 17 1) HT_ ?_
            refine pu_ 17 (some 29) (bq_ 18 0) HT_ ?_
            refine done_ (done_of HT_.out (by kernel_rfl)) ?_
            try go_wp2
            go_ret
            exact ⟨by first | rfl | (simp [errW_none, errW_some] <;> rfl) | (simp only [← hji8]; first | rfl | (simp [errW_none, errW_some] <;> rfl)) | (simp [*, errW_none, errW_some] <;> rfl), bs_ HB.out GE443.out⟩
        · rw [if_neg c7] at H
          have c7b0 : decide (0 < x7_1) = false := decide_eq_false c7
          clear c7
          have H' := Aside0.mk H
          clear H
          have p442 : 0 ≤ (x7_1 : Int) := of_decide_eq_true (by first | (with_reducible assumption) | assumption)
          have q442 : x7_1 < (l0.length : Int) := of_decide_eq_true (by first | (with_reducible assumption) | assumption)
          obtain ⟨ad442, e442, hx442_0, hx442_1⟩ := at_T39 HR0.out x7_1 p442 q442
          cases e442
          replace hx442_0 := (HB.out.cell (World.block_lt_of_cell? w _ hx442_0)).trans hx442_0
          replace hx442_1 := (HB.out.cell (World.block_lt_of_cell? w _ hx442_1)).trans hx442_1
          replace p442 := eq_true p442
          replace q442 := eq_true q442
          try go_wp2_with (first | ((with_reducible refine gate_dst (N := 4) rfl ?_); refine box_event ?hg (N := 4) ?hd (cs := #[.string (⟨#[]⟩ : ByteArray), .string (⟨#[]⟩ : ByteArray)]) (t := 39) ?hr ?_; (case hd => rfl); (case hg => rfl); (case hr => first | (go_simp; done) | (go_simp; rfl)); intro gb443 hg w22 hbox hb; have n0_ := Aside0.mk (below_step (be_ HB.out) hb); have n1_ := Aside0.mk (hbox); have n2_ := Aside0.mk ((by rw [hg]; exact (below_size (be_ HB.out)) : w.heap.size ≤ gb443)); have n3_ := Aside0.mk ((by rw [hg]; exact (below_size (be_ HB.out)) : w.heap.size ≤ gb443)); clear HB; have HB := n0_; have BK443 := n1_; have GW443 := n2_; have GE443 := n3_; clear n0_ n1_ n2_ n3_; clear hb hbox hg; have hcz23_0 : w22.cell? ⟨gb443, 0, none⟩ = some (.string (⟨#[]⟩ : ByteArray)) := (blk_cell BK443.out 0).trans rfl; have hcz23_1 : w22.cell? ⟨gb443, 1, none⟩ = some (.string (⟨#[]⟩ : ByteArray)) := (blk_cell BK443.out 1).trans rfl; have hfz23_0 := blk_frozen BK443.out 0; have hfz23_1 := blk_frozen BK443.out 1))
          have n0_ : Aside0 (((w22.setCell ⟨gb443, 0, none⟩ (.string ((rd_T39 l0 x7_1).f0))).setCell ⟨gb443, 1, none⟩ (.string ((rd_T39 l0 x7_1).f1))).heap[gb443]? = some (.cells #[.string ((rd_T39 l0 x7_1).f0), .string ((rd_T39 l0 x7_1).f1)] 39 (0, 0))) := ⟨by (with_reducible repeat (first | refine blk_drewN ?_ _ | refine blk_drew ?_ | refine blk_alloc ?_ _)); refine blk_put (cs := #[.string ((rd_T39 l0 x7_1).f0), .string (⟨#[]⟩ : ByteArray)]) ?_ 1 _ rfl; (with_reducible repeat (first | refine blk_drewN ?_ _ | refine blk_drew ?_ | refine blk_alloc ?_ _)); refine blk_put (cs := #[.string (⟨#[]⟩ : ByteArray), .string (⟨#[]⟩ : ByteArray)]) ?_ 0 _ rfl; (with_reducible repeat (first | refine blk_drewN ?_ _ | refine blk_drew ?_ | refine blk_alloc ?_ _)); exact BK443.out⟩
          have n1_ : Aside0 (Below w.heap.size w ((w22.setCell ⟨gb443, 0, none⟩ (.string ((rd_T39 l0 x7_1).f0))).setCell ⟨gb443, 1, none⟩ (.string ((rd_T39 l0 x7_1).f1)))) := ⟨bs_ HB.out GE443.out⟩
          (try clear BK443)
          (try clear HB)
          generalize ((w22.setCell ⟨gb443, 0, none⟩ (.string ((rd_T39 l0 x7_1).f0))).setCell ⟨gb443, 1, none⟩ (.string ((rd_T39 l0 x7_1).f1))) = w24 at n0_ n1_ ⊢
          have BK443 := n0_
          have HB := n1_
          clear n0_ n1_
          have n0_ := Aside0.mk (blk_drew BK443.out)
          have n1_ := Aside0.mk (below_drew1 HB.out)
          clear BK443
          clear HB
          have BK443 := n0_
          have HB := n1_
          clear n0_ n1_
          refine start_ (n := 18) (S := fun w' => w'.cell? ⟨gb443, 0, none⟩ = some (.string ((rd_T39 l0 x7_1).f0)) ∧ w'.cell? ⟨gb443, 1, none⟩ = some (.string ((rd_T39 l0 x7_1).f1))) (ds := []) (bq_ 0 18) (by kernel_rfl) rfl rfl ⟨(blk_cell BK443.out 0).trans rfl, (blk_cell BK443.out 1).trans rfl⟩ (fun hHeld => ?_); refine with_tabW impl_PairsOk.tab4 impl_PairsOk.bits4 (fun HT_ HW_ => ?_)
          generalize w24.drew = w25 at BK443 HB hHeld ⊢
          refine take_ (i := 0) (N := some 12) (v := ?_) (a' := ?_) (bq_ 1 17) rfl rfl (take_ofW HT_.out HW_.out (by kernel_rfl)) (fun _ _ _ h => h) (Or.inl ⟨by rfl, ?_⟩) hHeld ?_ ?_
          rotate_left
          · rintro w' ⟨s0, s1⟩
            go_simp
            with_reducible rfl
          rotate_left
          · simp only [Act.put, sa_, sz_, ss_, i64_w, i32_w]; rfl
          refine on_ 1 (some 13) (bq_ 2 16) HT_ (fun K hK => ?_)
          refine goes_ Try.func78 (by kernel_rfl) rfl #[.agg #[.string ((rd_T39 l0 x7_1).f0), .string ((rd_T39 l0 x7_1).f1)]] (by rfl) rfl rfl al_ ?_
          with_reducible refine (impl_PairOk.calls k1 ((rd_T39 l0 x7_1).f0) ((rd_T39 l0 x7_1).f1) true _ A5.out).mono ?_
          rintro e w26 ⟨rfl, hb⟩
          refine ⟨_, rfl, ?_⟩
          have n0_ := Aside0.mk (blk_below (g := gb443) (o := .cells #[.string ((rd_T39 l0 x7_1).f0), .string ((rd_T39 l0 x7_1).f1)] 39 (0, 0)) (bk_ BK443.out) hb)
          have n1_ := Aside0.mk (below_step (bs_ HB.out GE443.out) hb)
          clear BK443
          clear HB
          have BK443 := n0_
          have HB := n1_
          clear n0_ n1_
          (try clear hb)
          (try clear hb2)
          (try clear hk)
          (try clear hi)
          refine hK.out _ _ ⟨(blk_cell BK443.out 0).trans rfl, (blk_cell BK443.out 1).trans rfl⟩ (fun hHeld => ?_)
          clear hK K
          refine nm_ ?_
          refine pu_ 2 (some 14) (bq_ 3 15) HT_ ?_
          refine pu_ 3 (some 15) (bq_ 4 14) HT_ ?_
          refine pu_ 4 (some 16) (bq_ 5 13) HT_ ?_
          refine pu_ 5 (some 17) (bq_ 6 12) HT_ ?_
          refine pu_ 6 (some 18) (bq_ 7 11) HT_ ?_
          refine pure_ (i := 7) (N := some 19) (v := undef) (a' := ?_) (bq_ 8 10) rfl rfl (any_of HT_.out (by kernel_rfl)) (fun _ _ _ h => h) (Or.inr ⟨by rfl, rfl⟩) ?_ ?_
          rotate_left
          · simp only [Act.put, sa_, sz_, ss_, i64_w, i32_w]; rfl
          refine pure_ (i := 8) (N := some 20) (v := undef) (a' := ?_) (bq_ 9 9) rfl rfl (any_of HT_.out (by kernel_rfl)) (fun _ _ _ h => h) (Or.inr ⟨by rfl, rfl⟩) ?_ ?_
          rotate_left
          · simp only [Act.put, sa_, sz_, ss_, i64_w, i32_w]; rfl
          refine pure_ (i := 9) (N := some 21) (v := undef) (a' := ?_) (bq_ 10 8) rfl rfl (any_of HT_.out (by kernel_rfl)) (fun _ _ _ h => h) (Or.inr ⟨by rfl, rfl⟩) ?_ ?_
          rotate_left
          · simp only [Act.put, sa_, sz_, ss_, i64_w, i32_w]; rfl
          refine pure_ (i := 10) (N := some 22) (v := undef) (a' := ?_) (bq_ 11 7) rfl rfl (any_of HT_.out (by kernel_rfl)) (fun _ _ _ h => h) (Or.inr ⟨by rfl, rfl⟩) ?_ ?_
          rotate_left
          · simp only [Act.put, sa_, sz_, ss_, i64_w, i32_w]; rfl
          refine pure_ (i := 11) (N := some 23) (v := undef) (a' := ?_) (bq_ 12 6) rfl rfl (any_of HT_.out (by kernel_rfl)) (fun _ _ _ h => h) (Or.inr ⟨by rfl, rfl⟩) ?_ ?_
          rotate_left
          · simp only [Act.put, sa_, sz_, ss_, i64_w, i32_w]; rfl
          refine pure_ (i := 12) (N := some 24) (v := undef) (a' := ?_) (bq_ 13 5) rfl rfl (any_of HT_.out (by kernel_rfl)) (fun _ _ _ h => h) (Or.inr ⟨by rfl, rfl⟩) ?_ ?_
          rotate_left
          · simp only [Act.put, sa_, sz_, ss_, i64_w, i32_w]; rfl
          refine pure_ (i := 13) (N := some 25) (v := undef) (a' := ?_) (bq_ 14 4) rfl rfl (any_of HT_.out (by kernel_rfl)) (fun _ _ _ h => h) (Or.inr ⟨by rfl, rfl⟩) ?_ ?_
          rotate_left
          · simp only [Act.put, sa_, sz_, ss_, i64_w, i32_w]; rfl
          refine pure_ (i := 14) (N := some 26) (v := undef) (a' := ?_) (bq_ 15 3) rfl rfl (any_of HT_.out (by kernel_rfl)) (fun _ _ _ h => h) (Or.inr ⟨by rfl, rfl⟩) ?_ ?_
          rotate_left
          · simp only [Act.put, sa_, sz_, ss_, i64_w, i32_w]; rfl
          refine pure_ (i := 15) (N := some 27) (v := undef) (a' := ?_) (bq_ 16 2) rfl rfl (any_of HT_.out (by kernel_rfl)) (fun _ _ _ h => h) (Or.inr ⟨by rfl, rfl⟩) ?_ ?_
          rotate_left
          · simp only [Act.put, sa_, sz_, ss_, i64_w, i32_w]; rfl
          refine pu_ 16 (some 28) (bq_ 17 1) HT_ ?_
          refine pu_ 17 (some 29) (bq_ 18 0) HT_ ?_
          refine done_ (done_of HT_.out (by kernel_rfl)) ?_
          try go_wp2
          go_roundg k1
          case measure => have := HK1.out; omega
          case rel => exact ⟨(wrap64 (x7_1 + 1)), (by first | rfl | (simp; done) | (simp [*]; done)), H', ⟨by have := HK1.out; omega⟩, ⟨bs_ HB.out GE443.out⟩⟩
      · replace c6 := Bool.eq_false_iff.mpr c6
        subst c6
        have H1 : (some false) = some r := by rw [if_neg (show ¬ (false = true) by decide)] at H; exact H
        clear H
        have H := H1
        clear H1
        obtain rfl := Option.some.inj H
        have p442 : 0 ≤ (x7_1 : Int) := of_decide_eq_true (by first | (with_reducible assumption) | assumption)
        have q442 : x7_1 < (l0.length : Int) := of_decide_eq_true (by first | (with_reducible assumption) | assumption)
        obtain ⟨ad442, e442, hx442_0, hx442_1⟩ := at_T39 HR0.out x7_1 p442 q442
        cases e442
        replace hx442_0 := (HB.out.cell (World.block_lt_of_cell? w _ hx442_0)).trans hx442_0
        replace hx442_1 := (HB.out.cell (World.block_lt_of_cell? w _ hx442_1)).trans hx442_1
        replace p442 := eq_true p442
        replace q442 := eq_true q442
        try go_wp2_with (first | ((with_reducible refine gate_dst (N := 4) rfl ?_); refine box_event ?hg (N := 4) ?hd (cs := #[.string (⟨#[]⟩ : ByteArray), .string (⟨#[]⟩ : ByteArray)]) (t := 39) ?hr ?_; (case hd => rfl); (case hg => rfl); (case hr => first | (go_simp; done) | (go_simp; rfl)); intro gb443 hg w27 hbox hb; have n0_ := Aside0.mk (below_step (be_ HB.out) hb); have n1_ := Aside0.mk (hbox); have n2_ := Aside0.mk ((by rw [hg]; exact (below_size (be_ HB.out)) : w.heap.size ≤ gb443)); have n3_ := Aside0.mk ((by rw [hg]; exact (below_size (be_ HB.out)) : w.heap.size ≤ gb443)); clear HB; have HB := n0_; have BK443 := n1_; have GW443 := n2_; have GE443 := n3_; clear n0_ n1_ n2_ n3_; clear hb hbox hg; have hcz28_0 : w27.cell? ⟨gb443, 0, none⟩ = some (.string (⟨#[]⟩ : ByteArray)) := (blk_cell BK443.out 0).trans rfl; have hcz28_1 : w27.cell? ⟨gb443, 1, none⟩ = some (.string (⟨#[]⟩ : ByteArray)) := (blk_cell BK443.out 1).trans rfl; have hfz28_0 := blk_frozen BK443.out 0; have hfz28_1 := blk_frozen BK443.out 1))
        have n0_ : Aside0 (((w27.setCell ⟨gb443, 0, none⟩ (.string ((rd_T39 l0 x7_1).f0))).setCell ⟨gb443, 1, none⟩ (.string ((rd_T39 l0 x7_1).f1))).heap[gb443]? = some (.cells #[.string ((rd_T39 l0 x7_1).f0), .string ((rd_T39 l0 x7_1).f1)] 39 (0, 0))) := ⟨by (with_reducible repeat (first | refine blk_drewN ?_ _ | refine blk_drew ?_ | refine blk_alloc ?_ _)); refine blk_put (cs := #[.string ((rd_T39 l0 x7_1).f0), .string (⟨#[]⟩ : ByteArray)]) ?_ 1 _ rfl; (with_reducible repeat (first | refine blk_drewN ?_ _ | refine blk_drew ?_ | refine blk_alloc ?_ _)); refine blk_put (cs := #[.string (⟨#[]⟩ : ByteArray), .string (⟨#[]⟩ : ByteArray)]) ?_ 0 _ rfl; (with_reducible repeat (first | refine blk_drewN ?_ _ | refine blk_drew ?_ | refine blk_alloc ?_ _)); exact BK443.out⟩
        have n1_ : Aside0 (Below w.heap.size w ((w27.setCell ⟨gb443, 0, none⟩ (.string ((rd_T39 l0 x7_1).f0))).setCell ⟨gb443, 1, none⟩ (.string ((rd_T39 l0 x7_1).f1)))) := ⟨bs_ HB.out GE443.out⟩
        (try clear BK443)
        (try clear HB)
        generalize ((w27.setCell ⟨gb443, 0, none⟩ (.string ((rd_T39 l0 x7_1).f0))).setCell ⟨gb443, 1, none⟩ (.string ((rd_T39 l0 x7_1).f1))) = w29 at n0_ n1_ ⊢
        have BK443 := n0_
        have HB := n1_
        clear n0_ n1_
        have n0_ := Aside0.mk (blk_drew BK443.out)
        have n1_ := Aside0.mk (below_drew1 HB.out)
        clear BK443
        clear HB
        have BK443 := n0_
        have HB := n1_
        clear n0_ n1_
        refine start_ (n := 18) (S := fun w' => w'.cell? ⟨gb443, 0, none⟩ = some (.string ((rd_T39 l0 x7_1).f0)) ∧ w'.cell? ⟨gb443, 1, none⟩ = some (.string ((rd_T39 l0 x7_1).f1))) (ds := []) (bq_ 0 18) (by kernel_rfl) rfl rfl ⟨(blk_cell BK443.out 0).trans rfl, (blk_cell BK443.out 1).trans rfl⟩ (fun hHeld => ?_); refine with_tabW impl_PairsOk.tab4 impl_PairsOk.bits4 (fun HT_ HW_ => ?_)
        generalize w29.drew = w30 at BK443 HB hHeld ⊢
        refine take_ (i := 0) (N := some 12) (v := ?_) (a' := ?_) (bq_ 1 17) rfl rfl (take_ofW HT_.out HW_.out (by kernel_rfl)) (fun _ _ _ h => h) (Or.inl ⟨by rfl, ?_⟩) hHeld ?_ ?_
        rotate_left
        · rintro w' ⟨s0, s1⟩
          go_simp
          with_reducible rfl
        rotate_left
        · simp only [Act.put, sa_, sz_, ss_, i64_w, i32_w]; rfl
        refine on_ 1 (some 13) (bq_ 2 16) HT_ (fun K hK => ?_)
        refine goes_ Try.func78 (by kernel_rfl) rfl #[.agg #[.string ((rd_T39 l0 x7_1).f0), .string ((rd_T39 l0 x7_1).f1)]] (by rfl) rfl rfl al_ ?_
        with_reducible refine (impl_PairOk.calls k1 ((rd_T39 l0 x7_1).f0) ((rd_T39 l0 x7_1).f1) false _ A5.out).mono ?_
        rintro e w31 ⟨rfl, hb⟩
        refine ⟨_, rfl, ?_⟩
        have n0_ := Aside0.mk (blk_below (g := gb443) (o := .cells #[.string ((rd_T39 l0 x7_1).f0), .string ((rd_T39 l0 x7_1).f1)] 39 (0, 0)) (bk_ BK443.out) hb)
        have n1_ := Aside0.mk (below_step (bs_ HB.out GE443.out) hb)
        clear BK443
        clear HB
        have BK443 := n0_
        have HB := n1_
        clear n0_ n1_
        (try clear hb)
        (try clear hb2)
        (try clear hk)
        (try clear hi)
        refine hK.out _ _ ⟨(blk_cell BK443.out 0).trans rfl, (blk_cell BK443.out 1).trans rfl⟩ (fun hHeld => ?_)
        clear hK K
        refine nm_ ?_
        refine pu_ 2 (some 14) (bq_ 3 15) HT_ ?_
        refine pu_ 3 (some 15) (bq_ 4 14) HT_ ?_
        refine pure_ (i := 4) (N := some 16) (v := undef) (a' := ?_) (bq_ 5 13) rfl rfl (any_of HT_.out (by kernel_rfl)) (fun _ _ _ h => h) (Or.inr ⟨by rfl, rfl⟩) ?_ ?_
        rotate_left
        · simp only [Act.put, sa_, sz_, ss_, i64_w, i32_w]; rfl
        refine pure_ (i := 5) (N := some 17) (v := undef) (a' := ?_) (bq_ 6 12) rfl rfl (any_of HT_.out (by kernel_rfl)) (fun _ _ _ h => h) (Or.inr ⟨by rfl, rfl⟩) ?_ ?_
        rotate_left
        · simp only [Act.put, sa_, sz_, ss_, i64_w, i32_w]; rfl
        refine pure_ (i := 6) (N := some 18) (v := undef) (a' := ?_) (bq_ 7 11) rfl rfl (any_of HT_.out (by kernel_rfl)) (fun _ _ _ h => h) (Or.inr ⟨by rfl, rfl⟩) ?_ ?_
        rotate_left
        · simp only [Act.put, sa_, sz_, ss_, i64_w, i32_w]; rfl
        refine pure_ (i := 7) (N := some 19) (v := undef) (a' := ?_) (bq_ 8 10) rfl rfl (any_of HT_.out (by kernel_rfl)) (fun _ _ _ h => h) (Or.inr ⟨by rfl, rfl⟩) ?_ ?_
        rotate_left
        · simp only [Act.put, sa_, sz_, ss_, i64_w, i32_w]; rfl
        refine pure_ (i := 8) (N := some 20) (v := undef) (a' := ?_) (bq_ 9 9) rfl rfl (any_of HT_.out (by kernel_rfl)) (fun _ _ _ h => h) (Or.inr ⟨by rfl, rfl⟩) ?_ ?_
        rotate_left
        · simp only [Act.put, sa_, sz_, ss_, i64_w, i32_w]; rfl
        refine pure_ (i := 9) (N := some 21) (v := undef) (a' := ?_) (bq_ 10 8) rfl rfl (any_of HT_.out (by kernel_rfl)) (fun _ _ _ h => h) (Or.inr ⟨by rfl, rfl⟩) ?_ ?_
        rotate_left
        · simp only [Act.put, sa_, sz_, ss_, i64_w, i32_w]; rfl
        refine pure_ (i := 10) (N := some 22) (v := undef) (a' := ?_) (bq_ 11 7) rfl rfl (any_of HT_.out (by kernel_rfl)) (fun _ _ _ h => h) (Or.inr ⟨by rfl, rfl⟩) ?_ ?_
        rotate_left
        · simp only [Act.put, sa_, sz_, ss_, i64_w, i32_w]; rfl
        refine pure_ (i := 11) (N := some 23) (v := undef) (a' := ?_) (bq_ 12 6) rfl rfl (any_of HT_.out (by kernel_rfl)) (fun _ _ _ h => h) (Or.inr ⟨by rfl, rfl⟩) ?_ ?_
        rotate_left
        · simp only [Act.put, sa_, sz_, ss_, i64_w, i32_w]; rfl
        refine pure_ (i := 12) (N := some 24) (v := undef) (a' := ?_) (bq_ 13 5) rfl rfl (any_of HT_.out (by kernel_rfl)) (fun _ _ _ h => h) (Or.inr ⟨by rfl, rfl⟩) ?_ ?_
        rotate_left
        · simp only [Act.put, sa_, sz_, ss_, i64_w, i32_w]; rfl
        refine pure_ (i := 13) (N := some 25) (v := undef) (a' := ?_) (bq_ 14 4) rfl rfl (any_of HT_.out (by kernel_rfl)) (fun _ _ _ h => h) (Or.inr ⟨by rfl, rfl⟩) ?_ ?_
        rotate_left
        · simp only [Act.put, sa_, sz_, ss_, i64_w, i32_w]; rfl
        refine pure_ (i := 14) (N := some 26) (v := undef) (a' := ?_) (bq_ 15 3) rfl rfl (any_of HT_.out (by kernel_rfl)) (fun _ _ _ h => h) (Or.inr ⟨by rfl, rfl⟩) ?_ ?_
        rotate_left
        · simp only [Act.put, sa_, sz_, ss_, i64_w, i32_w]; rfl
        refine pure_ (i := 15) (N := some 27) (v := undef) (a' := ?_) (bq_ 16 2) rfl rfl (any_of HT_.out (by kernel_rfl)) (fun _ _ _ h => h) (Or.inr ⟨by rfl, rfl⟩) ?_ ?_
        rotate_left
        · simp only [Act.put, sa_, sz_, ss_, i64_w, i32_w]; rfl
        refine pure_ (i := 16) (N := some 28) (v := undef) (a' := ?_) (bq_ 17 1) rfl rfl (any_of HT_.out (by kernel_rfl)) (fun _ _ _ h => h) (Or.inr ⟨by rfl, rfl⟩) ?_ ?_
        rotate_left
        · simp only [Act.put, sa_, sz_, ss_, i64_w, i32_w]; rfl
        refine pu_ 17 (some 29) (bq_ 18 0) HT_ ?_
        refine done_ (done_of HT_.out (by kernel_rfl)) ?_
        try go_wp2
        go_ret
        exact ⟨by first | rfl | (simp [errW_none, errW_some] <;> rfl) | (simp [*, errW_none, errW_some] <;> rfl), bs_ HB.out GE443.out⟩
    · rw [if_neg c2] at H
      have c2b0 : decide (x7_1 < (l0.length : Int)) = false := decide_eq_false c2
      clear c2
      obtain rfl := Option.some.inj H
      go_wp2
      go_ret
      exact ⟨by first | rfl | (simp [errW_none, errW_some] <;> rfl) | (simp [*, errW_none, errW_some] <;> rfl), be_ HB.out⟩

/-! ###  impl_isBetween: function 50 -/
def impl_isBetween.f (a0 : ByteArray) (a1 : ByteArray) (a2 : ByteArray) : Option (Bool) := if ((Op.bytesLess a0.toList a1.toList) = true) then (some false) else (if a2.toList = ([] : List UInt8) then (some true) else (some (Op.bytesLess a0.toList a2.toList)))
set_option maxHeartbeats 8000000 in
set_option maxRecDepth 100000 in
theorem impl_isBetween.calls (a0 : ByteArray) (a1 : ByteArray) (a2 : ByteArray) (r : Bool) (w : World) (h : impl_isBetween.f a0 a1 a2 = some r) :
  Calls Try.prog 50 #[.string a0, .string a1, .string a2] w fun e w' => e = .returned (.bool r) ∧ Drawn0 w w' := by
  have H : (if ((Op.bytesLess a0.toList a1.toList) = true) then (some false) else (if a2.toList = ([] : List UInt8) then (some true) else (some (Op.bytesLess a0.toList a2.toList)))) = some r := h
  clear h
  by_cases c4 : ((Op.bytesLess a0.toList a1.toList) = true)
  · rw [if_pos c4] at H
    have c4b0 : (Op.bytesLess a0.toList a1.toList) = true := c4
    clear c4
    obtain rfl := Option.some.inj H
    go_enter Try.func50, Try.ntmps50
    go_wp2
    go_ret
    exact ⟨by first | rfl | (simp; done) | (simp [*]; done), by repeat (first | exact Drawn0.refl _ | apply Drawn0.step)⟩
  · rw [if_neg c4] at H
    have c4b0 : (Op.bytesLess a0.toList a1.toList) = false := by simpa using c4
    clear c4
    by_cases c5 : a2.toList = ([] : List UInt8)
    · rw [if_pos c5] at H
      have c5b0 : (a2.toList == ([] : List UInt8)) = true := beq_iff_eq.mpr c5
      have c5b1 : (a2.toList != ([] : List UInt8)) = false := bne_eq_false_iff_eq.mpr c5
      clear c5
      obtain rfl := Option.some.inj H
      go_enter Try.func50, Try.ntmps50
      go_wp2
      go_ret
      exact ⟨by first | rfl | (simp; done) | (simp [*]; done), by repeat (first | exact Drawn0.refl _ | apply Drawn0.step)⟩
    · rw [if_neg c5] at H
      have c5b0 : (a2.toList == ([] : List UInt8)) = false := beq_eq_false_iff_ne.mpr c5
      have c5b1 : (a2.toList != ([] : List UInt8)) = true := bne_iff_ne.mpr c5
      obtain rfl := Option.some.inj H
      go_enter Try.func50, Try.ntmps50
      go_wp2
      go_ret
      exact ⟨by first | rfl | (simp; done) | (simp [*]; done), by repeat (first | exact Drawn0.refl _ | apply Drawn0.step)⟩

end Go.Proofs.Ytbelaenekbflfaa.P
