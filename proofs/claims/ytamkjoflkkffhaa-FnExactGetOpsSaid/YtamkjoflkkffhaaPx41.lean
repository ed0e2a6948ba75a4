-- Written by wip/xp/xp.py over the kit's print; Lean checks it.
import Derived.Test.YtamkjoflkkffhaaPx0
import Derived.Test.YtamkjoflkkffhaaPx40
namespace Go.Proofs.Ytamkjoflkkffhaa.P
open Go.RowKit Go.Proofs.YtamkjoflkkffhaaW.PrintWords Go.Proofs.YtamkjoflkkffhaaW.PrintLast Go.Proofs.YtamkjoflkkffhaaW.PrintMore
attribute [local go_sem] max2_int min2_int max_two min_two max_three min_three max_four min_four   -- for this text's walks alone
set_option linter.unusedVariables false
set_option linter.unusedSimpArgs false

/-! ###  laws_eqOpS: function 36 -/
def laws_eqOpS.l0 : Nat → List (S84) → List (S84) → Int → Option (Bool)
  | 0, _, _, _ => none
  | k + 1, x0, x1, x5 => if x5 < (x0.length : Int) then (if 0 ≤ x5 then (if x5 < (x1.length : Int) then ((laws_eqOp.f ((rd_T84 x0 x5).f0) ((rd_T84 x0 x5).f1) ((rd_T84 x0 x5).f2) ((rd_T84 x1 x5).f0) ((rd_T84 x1 x5).f1) ((rd_T84 x1 x5).f2)).bind fun t691 => (if t691 = true then (laws_eqOpS.l0 k x0 x1 (wrap64 (x5 + 1))) else (some false))) else (none)) else (none)) else (some true)
def laws_eqOpS.f (k : Nat) (l0 : List (S84)) (l1 : List (S84)) : Option (Bool) := if (l0.length : Int) = (l1.length : Int) then (laws_eqOpS.l0 k l0 l1 0) else (some false)
def laws_eqOpS.T6 : Bool × List (List Nat × List Nat) := (true, [([], []), ([], []), ([0, 1], [0, 1]), ([2], [2]), ([], []), ([], []), ([4, 5], [4, 5]), ([6], [6]), ([3, 7], [3, 7]), ([8], [8])])
def laws_eqOpS.B6 : List Nat := [0, 0, 3, 7, 0, 0, 48, 112, 255, 511]
theorem laws_eqOpS.tab6 : rtab .any (opsOf Try.f36 6) = laws_eqOpS.T6 := by kernel_rfl
theorem laws_eqOpS.bits6 : waitsOk laws_eqOpS.T6.2 laws_eqOpS.B6 = true := by kernel_rfl
set_option maxHeartbeats 8000000 in
set_option maxRecDepth 100000 in
theorem laws_eqOpS.calls (k : Nat) (A0 : Option Addr) (c0 : Nat) (l0 : List (S84)) (A1 : Option Addr) (c1 : Nat) (l1 : List (S84)) (r : Bool) (w : World) (hr0 : Kd.C k84 w A0 l0.length l0) (hc0 : l0.length ≤ c0) (hr1 : Kd.C k84 w A1 l1.length l1) (hc1 : l1.length ≤ c1) (h : laws_eqOpS.f k l0 l1 = some r) :
  Calls Try.prog 36 #[.slice A0 l0.length c0, .slice A1 l1.length c1] w fun e w' => e = .returned (.bool r) ∧ Below w.heap.size w w' := by
  have hu84 := Try.underlying84
  have HR0 := Aside0.mk hr0
  have HC0 := Aside0.mk hc0
  clear hr0 hc0
  have HR1 := Aside0.mk hr1
  have HC1 := Aside0.mk hc1
  clear hr1 hc1
  have HB := Aside0.mk (Below.refl w.heap.size w)
  have H : (if (l0.length : Int) = (l1.length : Int) then (laws_eqOpS.l0 k l0 l1 0) else (some false)) = some r := h
  clear h
  by_cases c3 : (l0.length : Int) = (l1.length : Int)
  · rw [if_pos c3] at H
    have c3b0 : ((l0.length : Int) == (l1.length : Int)) = true := beq_iff_eq.mpr c3
    have c3b1 : ((l0.length : Int) != (l1.length : Int)) = false := bne_eq_false_iff_eq.mpr c3
    have c3b2 : (l0.length == l1.length) = true := by first | simpa using c3 | (simp at c3 ⊢; omega)
    clear c3
    have H' := Aside0.mk H
    clear H
    go_enter Try.func36, Try.ntmps36
    go_wp2
    go_loopg [5] k (fun kq v5 w' => ∃ (x5_1 : Int), v5 = .int .i64 x5_1 ∧ Aside0 (laws_eqOpS.l0 kq l0 l1 x5_1 = some r) ∧ Aside0 (kq ≤ k) ∧ Aside0 (Below w.heap.size w w'))
    case atStart => exact ⟨(0), (by first | rfl | (simp; done) | (simp [*]; done)), H', ⟨Nat.le_refl _⟩, ⟨be_ HB.out⟩⟩
    case round =>
     clear H'
     try clear c1
     try clear p2
     try clear c3
     try clear c3b0
     try clear c3b1
     try clear c3b2
     obtain ⟨x5_1, rfl, HA, HK1, HB⟩ := hrel
     cases gk with
     | zero => exact absurd HA.out (by simp [laws_eqOpS.l0])
     | succ k1 =>
      have H := HA.out
      clear HA
      simp only [laws_eqOpS.l0] at H
      by_cases c4 : x5_1 < (l0.length : Int)
      · rw [if_pos c4] at H
        have c4b0 : decide (x5_1 < (l0.length : Int)) = true := decide_eq_true c4
        clear c4
        by_cases c5 : 0 ≤ x5_1
        rotate_left
        · rw [if_neg c5] at H; exact absurd H (by simp)
        rw [if_pos c5] at H
        have c5b0 : decide (0 ≤ x5_1) = true := decide_eq_true c5
        clear c5
        by_cases c6 : x5_1 < (l1.length : Int)
        rotate_left
        · rw [if_neg c6] at H; exact absurd H (by simp)
        rw [if_pos c6] at H
        have c6b0 : decide (x5_1 < (l1.length : Int)) = true := decide_eq_true c6
        clear c6
        replace H := Option.bind_eq_some_iff.mp H
        obtain ⟨t691, A70, H⟩ := H
        have A7 := Aside0.mk A70
        clear A70
        by_cases c8 : t691 = true
        · subst c8
          have H1 : (laws_eqOpS.l0 k1 l0 l1 (wrap64 (x5_1 + 1))) = some r := by rw [if_pos rfl] at H; exact H
          clear H
          have H := H1
          clear H1
          have H' := Aside0.mk H
          clear H
          try go_wp2
          have n0_ := Aside0.mk (below_drew1 HB.out)
          clear HB
          have HB := n0_
          clear n0_
          have p689 : 0 ≤ (x5_1 : Int) := of_decide_eq_true (by first | (with_reducible assumption) | assumption)
          have q689 : x5_1 < (l0.length : Int) := of_decide_eq_true (by first | (with_reducible assumption) | assumption)
          obtain ⟨ad689, e689, hx689_0, hx689_1, hx689_2⟩ := at_T84 HR0.out x5_1 p689 q689
          have hw689_2 := hx689_2
          have hw689_1 := hx689_1
          have hw689_0 := hx689_0
          cases e689
          replace hx689_0 := (HB.out.cell (World.block_lt_of_cell? w _ hx689_0)).trans hx689_0
          replace hx689_1 := (HB.out.cell (World.block_lt_of_cell? w _ hx689_1)).trans hx689_1
          replace hx689_2 := (HB.out.cell (World.block_lt_of_cell? w _ hx689_2)).trans hx689_2
          replace p689 := eq_true p689
          replace q689 := eq_true q689
          have p690 : 0 ≤ (x5_1 : Int) := of_decide_eq_true (by first | (with_reducible assumption) | assumption)
          have q690 : x5_1 < (l1.length : Int) := of_decide_eq_true (by first | (with_reducible assumption) | assumption)
          obtain ⟨ad690, e690, hx690_0, hx690_1, hx690_2⟩ := at_T84 HR1.out x5_1 p690 q690
          have hw690_2 := hx690_2
          have hw690_1 := hx690_1
          have hw690_0 := hx690_0
          cases e690
          replace hx690_0 := (HB.out.cell (World.block_lt_of_cell? w _ hx690_0)).trans hx690_0
          replace hx690_1 := (HB.out.cell (World.block_lt_of_cell? w _ hx690_1)).trans hx690_1
          replace hx690_2 := (HB.out.cell (World.block_lt_of_cell? w _ hx690_2)).trans hx690_2
          replace p690 := eq_true p690
          replace q690 := eq_true q690
          refine start_ (n := 10) (S := fun w' => w'.cell? (ad689.add ((x5_1).toNat * 3)) = some (.int .i64 ((rd_T84 l0 x5_1).f0)) ∧ w'.cell? ⟨(ad689.add ((x5_1).toNat * 3)).block, (ad689.add ((x5_1).toNat * 3)).off + 1, none⟩ = some (.string ((rd_T84 l0 x5_1).f1)) ∧ w'.cell? ⟨(ad689.add ((x5_1).toNat * 3)).block, (ad689.add ((x5_1).toNat * 3)).off + 2, none⟩ = some (.string ((rd_T84 l0 x5_1).f2)) ∧ w'.cell? (ad690.add ((x5_1).toNat * 3)) = some (.int .i64 ((rd_T84 l1 x5_1).f0)) ∧ w'.cell? ⟨(ad690.add ((x5_1).toNat * 3)).block, (ad690.add ((x5_1).toNat * 3)).off + 1, none⟩ = some (.string ((rd_T84 l1 x5_1).f1)) ∧ w'.cell? ⟨(ad690.add ((x5_1).toNat * 3)).block, (ad690.add ((x5_1).toNat * 3)).off + 2, none⟩ = some (.string ((rd_T84 l1 x5_1).f2))) (ds := []) (bq_ 0 10) (by kernel_rfl) rfl rfl ⟨((HB.out.cell (World.block_lt_of_cell? w _ hw689_0)).trans hw689_0), ((HB.out.cell (World.block_lt_of_cell? w _ hw689_1)).trans hw689_1), ((HB.out.cell (World.block_lt_of_cell? w _ hw689_2)).trans hw689_2), ((HB.out.cell (World.block_lt_of_cell? w _ hw690_0)).trans hw690_0), ((HB.out.cell (World.block_lt_of_cell? w _ hw690_1)).trans hw690_1), ((HB.out.cell (World.block_lt_of_cell? w _ hw690_2)).trans hw690_2)⟩ (fun hHeld => ?_); refine with_tabW laws_eqOpS.tab6 laws_eqOpS.bits6 (fun HT_ HW_ => ?_)
          generalize wr.drew = w9 at HB hx689_0 hx689_1 hx689_2 hx690_0 hx690_1 hx690_2 hHeld ⊢
          refine pu_ 0 (some 17) (bq_ 1 9) HT_ ?_
          refine pu_ 1 (some 18) (bq_ 2 8) HT_ ?_
          refine pu_ 2 (some 19) (bq_ 3 7) HT_ ?_
          refine pu_ 4 (some 21) #[true, true, true, false, true, false, false, false, false, false] HT_ ?_
          refine pu_ 5 (some 22) #[true, true, true, false, true, true, false, false, false, false] HT_ ?_
          refine pu_ 6 (some 23) #[true, true, true, false, true, true, true, false, false, false] HT_ ?_
          refine take_ (i := 3) (N := some 20) (v := ?_) (a' := ?_) (bq_ 7 3) rfl rfl (take_ofW HT_.out HW_.out (by kernel_rfl)) (fun _ _ _ h => h) (Or.inl ⟨by rfl, ?_⟩) hHeld ?_ ?_
          rotate_left
          · rintro w' ⟨s0, s1, s2, s3, s4, s5⟩
            go_simp
            with_reducible rfl
          rotate_left
          · simp only [Act.put, sa_, sz_, ss_, i64_w, i32_w]; rfl
          refine take_ (i := 7) (N := some 24) (v := ?_) (a' := ?_) (bq_ 8 2) rfl rfl (take_ofW HT_.out HW_.out (by kernel_rfl)) (fun _ _ _ h => h) (Or.inl ⟨by rfl, ?_⟩) hHeld ?_ ?_
          rotate_left
          · rintro w' ⟨s0, s1, s2, s3, s4, s5⟩
            go_simp
            with_reducible rfl
          rotate_left
          · simp only [Act.put, sa_, sz_, ss_, i64_w, i32_w]; rfl
          refine on_ 8 (some 25) (bq_ 9 1) HT_ (fun K hK => ?_)
          refine goes_ Try.func69 (by kernel_rfl) rfl #[.agg #[.int .i64 ((rd_T84 l0 x5_1).f0), .string ((rd_T84 l0 x5_1).f1), .string ((rd_T84 l0 x5_1).f2)], .agg #[.int .i64 ((rd_T84 l1 x5_1).f0), .string ((rd_T84 l1 x5_1).f1), .string ((rd_T84 l1 x5_1).f2)]] (by rfl) rfl rfl al_ ?_
          with_reducible refine (laws_eqOp.calls ((rd_T84 l0 x5_1).f0) ((rd_T84 l0 x5_1).f1) ((rd_T84 l0 x5_1).f2) ((rd_T84 l1 x5_1).f0) ((rd_T84 l1 x5_1).f1) ((rd_T84 l1 x5_1).f2) true _ A7.out).mono ?_
          rintro e w10 ⟨rfl, hb⟩
          refine ⟨_, rfl, ?_⟩
          have n0_ := Aside0.mk (below_step (be_ HB.out) hb)
          clear HB
          have HB := n0_
          clear n0_
          (try clear hb)
          (try clear hb2)
          (try clear hk)
          (try clear hi)
          refine hK.out _ _ ⟨((HB.out.cell (World.block_lt_of_cell? w _ hw689_0)).trans hw689_0), ((HB.out.cell (World.block_lt_of_cell? w _ hw689_1)).trans hw689_1), ((HB.out.cell (World.block_lt_of_cell? w _ hw689_2)).trans hw689_2), ((HB.out.cell (World.block_lt_of_cell? w _ hw690_0)).trans hw690_0), ((HB.out.cell (World.block_lt_of_cell? w _ hw690_1)).trans hw690_1), ((HB.out.cell (World.block_lt_of_cell? w _ hw690_2)).trans hw690_2)⟩ (fun hHeld => ?_)
          clear hK K
          refine nm_ ?_
          refine pu_ 9 (some 26) (bq_ 10 0) HT_ ?_
          refine done_ (done_of HT_.out (by kernel_rfl)) ?_
          try go_wp2
          go_roundg k1
          case measure => have := HK1.out; omega
          case rel => exact ⟨(wrap64 (x5_1 + 1)), (by first | rfl | (simp; done) | (simp [*]; done)), H', ⟨by have := HK1.out; omega⟩, ⟨be_ HB.out⟩⟩
        · replace c8 := Bool.eq_false_iff.mpr c8
          subst c8
          have H1 : (some false) = some r := by rw [if_neg (show ¬ (false = true) by decide)] at H; exact H
          clear H
          have H := H1
          clear H1
          obtain rfl := Option.some.inj H
          try go_wp2
          have n0_ := Aside0.mk (below_drew1 HB.out)
          clear HB
          have HB := n0_
          clear n0_
          have p689 : 0 ≤ (x5_1 : Int) := of_decide_eq_true (by first | (with_reducible assumption) | assumption)
          have q689 : x5_1 < (l0.length : Int) := of_decide_eq_true (by first | (with_reducible assumption) | assumption)
          obtain ⟨ad689, e689, hx689_0, hx689_1, hx689_2⟩ := at_T84 HR0.out x5_1 p689 q689
          have hw689_2 := hx689_2
          have hw689_1 := hx689_1
          have hw689_0 := hx689_0
          cases e689
          replace hx689_0 := (HB.out.cell (World.block_lt_of_cell? w _ hx689_0)).trans hx689_0
          replace hx689_1 := (HB.out.cell (World.block_lt_of_cell? w _ hx689_1)).trans hx689_1
          replace hx689_2 := (HB.out.cell (World.block_lt_of_cell? w _ hx689_2)).trans hx689_2
          replace p689 := eq_true p689
          replace q689 := eq_true q689
          have p690 : 0 ≤ (x5_1 : Int) := of_decide_eq_true (by first | (with_reducible assumption) | assumption)
          have q690 : x5_1 < (l1.length : Int) := of_decide_eq_true (by first | (with_reducible assumption) | assumption)
          obtain ⟨ad690, e690, hx690_0, hx690_1, hx690_2⟩ := at_T84 HR1.out x5_1 p690 q690
          have hw690_2 := hx690_2
          have hw690_1 := hx690_1
          have hw690_0 := hx690_0
          cases e690
          replace hx690_0 := (HB.out.cell (World.block_lt_of_cell? w _ hx690_0)).trans hx690_0
          replace hx690_1 := (HB.out.cell (World.block_lt_of_cell? w _ hx690_1)).trans hx690_1
          replace hx690_2 := (HB.out.cell (World.block_lt_of_cell? w _ hx690_2)).trans hx690_2
          replace p690 := eq_true p690
          replace q690 := eq_true q690
          refine start_ (n := 10) (S := fun w' => w'.cell? (ad689.add ((x5_1).toNat * 3)) = some (.int .i64 ((rd_T84 l0 x5_1).f0)) ∧ w'.cell? ⟨(ad689.add ((x5_1).toNat * 3)).block, (ad689.add ((x5_1).toNat * 3)).off + 1, none⟩ = some (.string ((rd_T84 l0 x5_1).f1)) ∧ w'.cell? ⟨(ad689.add ((x5_1).toNat * 3)).block, (ad689.add ((x5_1).toNat * 3)).off + 2, none⟩ = some (.string ((rd_T84 l0 x5_1).f2)) ∧ w'.cell? (ad690.add ((x5_1).toNat * 3)) = some (.int .i64 ((rd_T84 l1 x5_1).f0)) ∧ w'.cell? ⟨(ad690.add ((x5_1).toNat * 3)).block, (ad690.add ((x5_1).toNat * 3)).off + 1, none⟩ = some (.string ((rd_T84 l1 x5_1).f1)) ∧ w'.cell? ⟨(ad690.add ((x5_1).toNat * 3)).block, (ad690.add ((x5_1).toNat * 3)).off + 2, none⟩ = some (.string ((rd_T84 l1 x5_1).f2))) (ds := []) (bq_ 0 10) (by kernel_rfl) rfl rfl ⟨((HB.out.cell (World.block_lt_of_cell? w _ hw689_0)).trans hw689_0), ((HB.out.cell (World.block_lt_of_cell? w _ hw689_1)).trans hw689_1), ((HB.out.cell (World.block_lt_of_cell? w _ hw689_2)).trans hw689_2), ((HB.out.cell (World.block_lt_of_cell? w _ hw690_0)).trans hw690_0), ((HB.out.cell (World.block_lt_of_cell? w _ hw690_1)).trans hw690_1), ((HB.out.cell (World.block_lt_of_cell? w _ hw690_2)).trans hw690_2)⟩ (fun hHeld => ?_); refine with_tabW laws_eqOpS.tab6 laws_eqOpS.bits6 (fun HT_ HW_ => ?_)
          generalize wr.drew = w11 at HB hx689_0 hx689_1 hx689_2 hx690_0 hx690_1 hx690_2 hHeld ⊢
          refine pu_ 0 (some 17) (bq_ 1 9) HT_ ?_
          refine pu_ 1 (some 18) (bq_ 2 8) HT_ ?_
          refine pu_ 2 (some 19) (bq_ 3 7) HT_ ?_
          refine pu_ 4 (some 21) #[true, true, true, false, true, false, false, false, false, false] HT_ ?_
          refine pu_ 5 (some 22) #[true, true, true, false, true, true, false, false, false, false] HT_ ?_
          refine pu_ 6 (some 23) #[true, true, true, false, true, true, true, false, false, false] HT_ ?_
          refine take_ (i := 3) (N := some 20) (v := ?_) (a' := ?_) (bq_ 7 3) rfl rfl (take_ofW HT_.out HW_.out (by kernel_rfl)) (fun _ _ _ h => h) (Or.inl ⟨by rfl, ?_⟩) hHeld ?_ ?_
          rotate_left
          · rintro w' ⟨s0, s1, s2, s3, s4, s5⟩
            go_simp
            with_reducible rfl
          rotate_left
          · simp only [Act.put, sa_, sz_, ss_, i64_w, i32_w]; rfl
          refine take_ (i := 7) (N := some 24) (v := ?_) (a' := ?_) (bq_ 8 2) rfl rfl (take_ofW HT_.out HW_.out (by kernel_rfl)) (fun _ _ _ h => h) (Or.inl ⟨by rfl, ?_⟩) hHeld ?_ ?_
          rotate_left
          · rintro w' ⟨s0, s1, s2, s3, s4, s5⟩
            go_simp
            with_reducible rfl
          rotate_left
          · simp only [Act.put, sa_, sz_, ss_, i64_w, i32_w]; rfl
          refine on_ 8 (some 25) (bq_ 9 1) HT_ (fun K hK => ?_)
          refine goes_ Try.func69 (by kernel_rfl) rfl #[.agg #[.int .i64 ((rd_T84 l0 x5_1).f0), .string ((rd_T84 l0 x5_1).f1), .string ((rd_T84 l0 x5_1).f2)], .agg #[.int .i64 ((rd_T84 l1 x5_1).f0), .string ((rd_T84 l1 x5_1).f1), .string ((rd_T84 l1 x5_1).f2)]] (by rfl) rfl rfl al_ ?_
          with_reducible refine (laws_eqOp.calls ((rd_T84 l0 x5_1).f0) ((rd_T84 l0 x5_1).f1) ((rd_T84 l0 x5_1).f2) ((rd_T84 l1 x5_1).f0) ((rd_T84 l1 x5_1).f1) ((rd_T84 l1 x5_1).f2) false _ A7.out).mono ?_
          rintro e w12 ⟨rfl, hb⟩
          refine ⟨_, rfl, ?_⟩
          have n0_ := Aside0.mk (below_step (be_ HB.out) hb)
          clear HB
          have HB := n0_
          clear n0_
          (try clear hb)
          (try clear hb2)
          (try clear hk)
          (try clear hi)
          refine hK.out _ _ ⟨((HB.out.cell (World.block_lt_of_cell? w _ hw689_0)).trans hw689_0), ((HB.out.cell (World.block_lt_of_cell? w _ hw689_1)).trans hw689_1), ((HB.out.cell (World.block_lt_of_cell? w _ hw689_2)).trans hw689_2), ((HB.out.cell (World.block_lt_of_cell? w _ hw690_0)).trans hw690_0), ((HB.out.cell (World.block_lt_of_cell? w _ hw690_1)).trans hw690_1), ((HB.out.cell (World.block_lt_of_cell? w _ hw690_2)).trans hw690_2)⟩ (fun hHeld => ?_)
          clear hK K
          refine nm_ ?_
          refine pu_ 9 (some 26) (bq_ 10 0) HT_ ?_
          refine done_ (done_of HT_.out (by kernel_rfl)) ?_
          try go_wp2
          go_ret
          exact ⟨by first | rfl | (simp [errW_none, errW_some] <;> rfl) | (simp [*, errW_none, errW_some] <;> rfl), be_ HB.out⟩
      · rw [if_neg c4] at H
        have c4b0 : decide (x5_1 < (l0.length : Int)) = false := decide_eq_false c4
        clear c4
        obtain rfl := Option.some.inj H
        go_wp2
        go_ret
        exact ⟨by first | rfl | (simp [errW_none, errW_some] <;> rfl) | (simp [*, errW_none, errW_some] <;> rfl), be_ HB.out⟩
  · rw [if_neg c3] at H
    have c3b0 : ((l0.length : Int) == (l1.length : Int)) = false := beq_eq_false_iff_ne.mpr c3
    have c3b1 : ((l0.length : Int) != (l1.length : Int)) = true := bne_iff_ne.mpr c3
    have c3b2 : (l0.length == l1.length) = false := by first | simpa using c3 | (simp at c3 ⊢; omega)
    obtain rfl := Option.some.inj H
    go_enter Try.func36, Try.ntmps36
    go_wp2
    go_ret
    exact ⟨by first | rfl | (simp [errW_none, errW_some] <;> rfl) | (simp [*, errW_none, errW_some] <;> rfl), be_ HB.out⟩

end Go.Proofs.Ytamkjoflkkffhaa.P
