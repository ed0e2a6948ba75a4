-- Written by wip/xp/xp.py over the kit's print; Lean checks it.
import Derived.Test.YtbelaenekbflfaaPx0
import Derived.Test.YtbelaenekbflfaaPx10
namespace Go.Proofs.Ytbelaenekbflfaa.P
open Go.RowKit Go.Proofs.YtbelaenekbflfaaW.PrintWords Go.Proofs.YtbelaenekbflfaaW.PrintLast Go.Proofs.YtbelaenekbflfaaW.PrintMore
attribute [local go_sem] max2_int min2_int max_two min_two max_three min_three max_four min_four   -- for this text's walks alone
set_option linter.unusedVariables false
set_option linter.unusedSimpArgs false

/-! ###  laws_eqPairS: function 23 -/
def laws_eqPairS.l0 : Nat → List (S39) → List (S39) → Int → Option (Bool)
  | 0, _, _, _ => none
  | k + 1, x0, x1, x5 => if x5 < (x0.length : Int) then (if 0 ≤ x5 then (if x5 < (x1.length : Int) then ((laws_eqPair.f ((rd_T39 x0 x5).f0) ((rd_T39 x0 x5).f1) ((rd_T39 x1 x5).f0) ((rd_T39 x1 x5).f1)).bind fun t475 => (if t475 = true then (laws_eqPairS.l0 k x0 x1 (wrap64 (x5 + 1))) else (some false))) else (none)) else (none)) else (some true)
def laws_eqPairS.f (k : Nat) (l0 : List (S39)) (l1 : List (S39)) : Option (Bool) := if (l0.length : Int) = (l1.length : Int) then (laws_eqPairS.l0 k l0 l1 0) else (some false)
def laws_eqPairS.T6 : Bool × List (List Nat × List Nat) := (true, [([], []), ([], []), ([0, 1], [0, 1]), ([2], [2]), ([], []), ([], []), ([4, 5], [4, 5]), ([6], [6]), ([3, 7], [3, 7]), ([8], [8])])
def laws_eqPairS.B6 : List Nat := [0, 0, 3, 7, 0, 0, 48, 112, 255, 511]
theorem laws_eqPairS.tab6 : rtab .any (opsOf Try.f23 6) = laws_eqPairS.T6 := by kernel_rfl
theorem laws_eqPairS.bits6 : waitsOk laws_eqPairS.T6.2 laws_eqPairS.B6 = true := by kernel_rfl
set_option maxHeartbeats 8000000 in
set_option maxRecDepth 100000 in
theorem laws_eqPairS.calls (k : Nat) (A0 : Option Addr) (c0 : Nat) (l0 : List (S39)) (A1 : Option Addr) (c1 : Nat) (l1 : List (S39)) (r : Bool) (w : World) (hr0 : Kd.C k39 w A0 l0.length l0) (hc0 : l0.length ≤ c0) (hr1 : Kd.C k39 w A1 l1.length l1) (hc1 : l1.length ≤ c1) (h : laws_eqPairS.f k l0 l1 = some r) :
  Calls Try.prog 23 #[.slice A0 l0.length c0, .slice A1 l1.length c1] w fun e w' => e = .returned (.bool r) ∧ Below w.heap.size w w' := by
  have hu39 := Try.underlying39
  have HR0 := Aside0.mk hr0
  have HC0 := Aside0.mk hc0
  clear hr0 hc0
  have HR1 := Aside0.mk hr1
  have HC1 := Aside0.mk hc1
  clear hr1 hc1
  have HB := Aside0.mk (Below.refl w.heap.size w)
  have H : (if (l0.length : Int) = (l1.length : Int) then (laws_eqPairS.l0 k l0 l1 0) else (some false)) = some r := h
  clear h
  by_cases c3 : (l0.length : Int) = (l1.length : Int)
  · rw [if_pos c3] at H
    have c3b0 : ((l0.length : Int) == (l1.length : Int)) = true := beq_iff_eq.mpr c3
    have c3b1 : ((l0.length : Int) != (l1.length : Int)) = false := bne_eq_false_iff_eq.mpr c3
    have c3b2 : (l0.length == l1.length) = true := by first | simpa using c3 | (simp at c3 ⊢; omega)
    clear c3
    have H' := Aside0.mk H
    clear H
    go_enter Try.func23, Try.ntmps23
    go_wp2
    go_loopg [5] k (fun kq v5 w' => ∃ (x5_1 : Int), v5 = .int .i64 x5_1 ∧ Aside0 (laws_eqPairS.l0 kq l0 l1 x5_1 = some r) ∧ Aside0 (kq ≤ k) ∧ Aside0 (Below w.heap.size w w'))
    case atStart => exact ⟨(0), (by first | rfl | (simp; done) | (simp [*]; done)), H', ⟨Nat.le_refl _⟩, ⟨be_ HB.out⟩⟩
    case round =>
     clear H'
     try clear c1
     try clear c2
     try clear p2
     try clear c3
     try clear c3b0
     try clear c3b1
     try clear c3b2
     obtain ⟨x5_1, rfl, HA, HK1, HB⟩ := hrel
     cases gk with
     | zero => exact absurd HA.out (by simp [laws_eqPairS.l0])
     | succ k1 =>
      have H := HA.out
      clear HA
      simp only [laws_eqPairS.l0] at H
      by_cases c4 : x5_1 < (l0.length : Int)
      · rw [if_pos c4] at H
        have c4b0 : decide (x5_1 < (l0.length : Int)) = true := decide_eq_true c4
        clear c4
        by_cases c5 : 0 ≤ x5_1
        rotate_left
        · rw [if_neg c5] at H; exact absurd H (by simp)
        rw [if_pos c5] at H
        have c5b0 : decide (0 ≤ x5_1) = true := decide_eq_true c5
        clear c5
        by_cases c6 : x5_1 < (l1.length : Int)
        rotate_left
        · rw [if_neg c6] at H; exact absurd H (by simp)
        rw [if_pos c6] at H
        have c6b0 : decide (x5_1 < (l1.length : Int)) = true := decide_eq_true c6
        clear c6
        replace H := Option.bind_eq_some_iff.mp H
        obtain ⟨t475, A70, H⟩ := H
        have A7 := Aside0.mk A70
        clear A70
        by_cases c8 : t475 = true
        · subst c8
          have H1 : (laws_eqPairS.l0 k1 l0 l1 (wrap64 (x5_1 + 1))) = some r := by rw [if_pos rfl] at H; exact H
          clear H
          have H := H1
          clear H1
          have H' := Aside0.mk H
          clear H
          try go_wp2
          have n0_ := Aside0.mk (below_drew1 HB.out)
          clear HB
          have HB := n0_
          clear n0_
          have p473 : 0 ≤ (x5_1 : Int) := of_decide_eq_true (by first | (with_reducible assumption) | assumption)
          have q473 : x5_1 < (l0.length : Int) := of_decide_eq_true (by first | (with_reducible assumption) | assumption)
          obtain ⟨ad473, e473, hx473_0, hx473_1⟩ := at_T39 HR0.out x5_1 p473 q473
          have hw473_1 := hx473_1
          have hw473_0 := hx473_0
          cases e473
          replace hx473_0 := (HB.out.cell (World.block_lt_of_cell? w _ hx473_0)).trans hx473_0
          replace hx473_1 := (HB.out.cell (World.block_lt_of_cell? w _ hx473_1)).trans hx473_1
          replace p473 := eq_true p473
          replace q473 := eq_true q473
          have p474 : 0 ≤ (x5_1 : Int) := of_decide_eq_true (by first | (with_reducible assumption) | assumption)
          have q474 : x5_1 < (l1.length : Int) := of_decide_eq_true (by first | (with_reducible assumption) | assumption)
          obtain ⟨ad474, e474, hx474_0, hx474_1⟩ := at_T39 HR1.out x5_1 p474 q474
          have hw474_1 := hx474_1
          have hw474_0 := hx474_0
          cases e474
          replace hx474_0 := (HB.out.cell (World.block_lt_of_cell? w _ hx474_0)).trans hx474_0
          replace hx474_1 := (HB.out.cell (World.block_lt_of_cell? w _ hx474_1)).trans hx474_1
          replace p474 := eq_true p474
          replace q474 := eq_true q474
          refine start_ (n := 10) (S := fun w' => w'.cell? (ad473.add ((x5_1).toNat * 2)) = some (.string ((rd_T39 l0 x5_1).f0)) ∧ w'.cell? ⟨(ad473.add ((x5_1).toNat * 2)).block, (ad473.add ((x5_1).toNat * 2)).off + 1, none⟩ = some (.string ((rd_T39 l0 x5_1).f1)) ∧ w'.cell? (ad474.add ((x5_1).toNat * 2)) = some (.string ((rd_T39 l1 x5_1).f0)) ∧ w'.cell? ⟨(ad474.add ((x5_1).toNat * 2)).block, (ad474.add ((x5_1).toNat * 2)).off + 1, none⟩ = some (.string ((rd_T39 l1 x5_1).f1))) (ds := []) (bq_ 0 10) (by kernel_rfl) rfl rfl ⟨((HB.out.cell (World.block_lt_of_cell? w _ hw473_0)).trans hw473_0), ((HB.out.cell (World.block_lt_of_cell? w _ hw473_1)).trans hw473_1), ((HB.out.cell (World.block_lt_of_cell? w _ hw474_0)).trans hw474_0), ((HB.out.cell (World.block_lt_of_cell? w _ hw474_1)).trans hw474_1)⟩ (fun hHeld => ?_); refine with_tabW laws_eqPairS.tab6 laws_eqPairS.bits6 (fun HT_ HW_ => ?_)
          generalize wr.drew = w9 at HB hx473_0 hx473_1 hx474_0 hx474_1 hHeld ⊢
          refine pu_ 0 (some 17) (bq_ 1 9) HT_ ?_
          refine pu_ 1 (some 18) (bq_ 2 8) HT_ ?_
          refine pu_ 2 (some 19) (bq_ 3 7) HT_ ?_
          refine pu_ 4 (some 21) #[true, true, true, false, true, false, false, false, false, false] HT_ ?_
          refine pu_ 5 (some 22) #[true, true, true, false, true, true, false, false, false, false] HT_ ?_
          refine pu_ 6 (some 23) #[true, true, true, false, true, true, true, false, false, false] HT_ ?_
          refine take_ (i := 3) (N := some 20) (v := ?_) (a' := ?_) (bq_ 7 3) rfl rfl (take_ofW HT_.out HW_.out (by kernel_rfl)) (fun _ _ _ h => h) (Or.inl ⟨by rfl, ?_⟩) hHeld ?_ ?_
          rotate_left
          · rintro w' ⟨s0, s1, s2, s3⟩
            go_simp
            with_reducible rfl
          rotate_left
          · simp only [Act.put, sa_, sz_, ss_, i64_w, i32_w]; rfl
          refine take_ (i := 7) (N := some 24) (v := ?_) (a' := ?_) (bq_ 8 2) rfl rfl (take_ofW HT_.out HW_.out (by kernel_rfl)) (fun _ _ _ h => h) (Or.inl ⟨by rfl, ?_⟩) hHeld ?_ ?_
          rotate_left
          · rintro w' ⟨s0, s1, s2, s3⟩
            go_simp
            with_reducible rfl
          rotate_left
          · simp only [Act.put, sa_, sz_, ss_, i64_w, i32_w]; rfl
          refine on_ 8 (some 25) (bq_ 9 1) HT_ (fun K hK => ?_)
          refine goes_ Try.func52 (by kernel_rfl) rfl #[.agg #[.string ((rd_T39 l0 x5_1).f0), .string ((rd_T39 l0 x5_1).f1)], .agg #[.string ((rd_T39 l1 x5_1).f0), .string ((rd_T39 l1 x5_1).f1)]] (by rfl) rfl rfl al_ ?_
          with_reducible refine (laws_eqPair.calls ((rd_T39 l0 x5_1).f0) ((rd_T39 l0 x5_1).f1) ((rd_T39 l1 x5_1).f0) ((rd_T39 l1 x5_1).f1) true _ A7.out).mono ?_
          rintro e w10 ⟨rfl, hb⟩
          refine ⟨_, rfl, ?_⟩
          have n0_ := Aside0.mk (below_step (be_ HB.out) hb)
          clear HB
          have HB := n0_
          clear n0_
          (try clear hb)
          (try clear hb2)
          (try clear hk)
          (try clear hi)
          refine hK.out _ _ ⟨((HB.out.cell (World.block_lt_of_cell? w _ hw473_0)).trans hw473_0), ((HB.out.cell (World.block_lt_of_cell? w _ hw473_1)).trans hw473_1), ((HB.out.cell (World.block_lt_of_cell? w _ hw474_0)).trans hw474_0), ((HB.out.cell (World.block_lt_of_cell? w _ hw474_1)).trans hw474_1)⟩ (fun hHeld => ?_)
          clear hK K
          refine nm_ ?_
          refine pu_ 9 (some 26) (bq_ 10 0) HT_ ?_
          refine done_ (done_of HT_.out (by kernel_rfl)) ?_
          try go_wp2
          go_roundg k1
          case measure => have := HK1.out; omega
          case rel => exact ⟨(wrap64 (x5_1 + 1)), (by first | rfl | (simp; done) | (simp [*]; done)), H', ⟨by have := HK1.out; omega⟩, ⟨be_ HB.out⟩⟩
        · replace c8 := Bool.eq_false_iff.mpr c8
          subst c8
          have H1 : (some false) = some r := by rw [if_neg (show ¬ (false = true) by decide)] at H; exact H
          clear H
          have H := H1
          clear H1
          obtain rfl := Option.some.inj H
          try go_wp2
          have n0_ := Aside0.mk (below_drew1 HB.out)
          clear HB
          have HB := n0_
          clear n0_
          have p473 : 0 ≤ (x5_1 : Int) := of_decide_eq_true (by first | (with_reducible assumption) | assumption)
          have q473 : x5_1 < (l0.length : Int) := of_decide_eq_true (by first | (with_reducible assumption) | assumption)
          obtain ⟨ad473, e473, hx473_0, hx473_1⟩ := at_T39 HR0.out x5_1 p473 q473
          have hw473_1 := hx473_1
          have hw473_0 := hx473_0
          cases e473
          replace hx473_0 := (HB.out.cell (World.block_lt_of_cell? w _ hx473_0)).trans hx473_0
          replace hx473_1 := (HB.out.cell (World.block_lt_of_cell? w _ hx473_1)).trans hx473_1
          replace p473 := eq_true p473
          replace q473 := eq_true q473
          have p474 : 0 ≤ (x5_1 : Int) := of_decide_eq_true (by first | (with_reducible assumption) | assumption)
          have q474 : x5_1 < (l1.length : Int) := of_decide_eq_true (by first | (with_reducible assumption) | assumption)
          obtain ⟨ad474, e474, hx474_0, hx474_1⟩ := at_T39 HR1.out x5_1 p474 q474
          have hw474_1 := hx474_1
          have hw474_0 := hx474_0
          cases e474
          replace hx474_0 := (HB.out.cell (World.block_lt_of_cell? w _ hx474_0)).trans hx474_0
          replace hx474_1 := (HB.out.cell (World.block_lt_of_cell? w _ hx474_1)).trans hx474_1
          replace p474 := eq_true p474
          replace q474 := eq_true q474
          refine start_ (n := 10) (S := fun w' => w'.cell? (ad473.add ((x5_1).toNat * 2)) = some (.string ((rd_T39 l0 x5_1).f0)) ∧ w'.cell? ⟨(ad473.add ((x5_1).toNat * 2)).block, (ad473.add ((x5_1).toNat * 2)).off + 1, none⟩ = some (.string ((rd_T39 l0 x5_1).f1)) ∧ w'.cell? (ad474.add ((x5_1).toNat * 2)) = some (.string ((rd_T39 l1 x5_1).f0)) ∧ w'.cell? ⟨(ad474.add ((x5_1).toNat * 2)).block, (ad474.add ((x5_1).toNat * 2)).off + 1, none⟩ = some (.string ((rd_T39 l1 x5_1).f1))) (ds := []) (bq_ 0 10) (by kernel_rfl) rfl rfl ⟨((HB.out.cell (World.block_lt_of_cell? w _ hw473_0)).trans hw473_0), ((HB.out.cell (World.block_lt_of_cell? w _ hw473_1)).trans hw473_1), ((HB.out.cell (World.block_lt_of_cell? w _ hw474_0)).trans hw474_0), ((HB.out.cell (World.block_lt_of_cell? w _ hw474_1)).trans hw474_1)⟩ (fun hHeld => ?_); refine with_tabW laws_eqPairS.tab6 laws_eqPairS.bits6 (fun HT_ HW_ => ?_)
          generalize wr.drew = w11 at HB hx473_0 hx473_1 hx474_0 hx474_1 hHeld ⊢
          refine pu_ 0 (some 17) (bq_ 1 9) HT_ ?_
          refine pu_ 1 (some 18) (bq_ 2 8) HT_ ?_
          refine pu_ 2 (some 19) (bq_ 3 7) HT_ ?_
          refine pu_ 4 (some 21) #[true, true, true, false, true, false, false, false, false, false] HT_ ?_
          refine pu_ 5 (some 22) #[true, true, true, false, true, true, false, false, false, false] HT_ ?_
          refine pu_ 6 (some 23) #[true, true, true, false, true, true, true, false, false, false] HT_ ?_
          refine take_ (i := 3) (N := some 20) (v := ?_) (a' := ?_) (bq_ 7 3) rfl rfl (take_ofW HT_.out HW_.out (by kernel_rfl)) (fun _ _ _ h => h) (Or.inl ⟨by rfl, ?_⟩) hHeld ?_ ?_
          rotate_left
          · rintro w' ⟨s0, s1, s2, s3⟩
            go_simp
            with_reducible rfl
          rotate_left
          · simp only [Act.put, sa_, sz_, ss_, i64_w, i32_w]; rfl
          refine take_ (i := 7) (N := some 24) (v := ?_) (a' := ?_) (bq_ 8 2) rfl rfl (take_ofW HT_.out HW_.out (by kernel_rfl)) (fun _ _ _ h => h) (Or.inl ⟨by rfl, ?_⟩) hHeld ?_ ?_
          rotate_left
          · rintro w' ⟨s0, s1, s2, s3⟩
            go_simp
            with_reducible rfl
          rotate_left
          · simp only [Act.put, sa_, sz_, ss_, i64_w, i32_w]; rfl
          refine on_ 8 (some 25) (bq_ 9 1) HT_ (fun K hK => ?_)
          refine goes_ Try.func52 (by kernel_rfl) rfl #[.agg #[.string ((rd_T39 l0 x5_1).f0), .string ((rd_T39 l0 x5_1).f1)], .agg #[.string ((rd_T39 l1 x5_1).f0), .string ((rd_T39 l1 x5_1).f1)]] (by rfl) rfl rfl al_ ?_
          with_reducible refine (laws_eqPair.calls ((rd_T39 l0 x5_1).f0) ((rd_T39 l0 x5_1).f1) ((rd_T39 l1 x5_1).f0) ((rd_T39 l1 x5_1).f1) false _ A7.out).mono ?_
          rintro e w12 ⟨rfl, hb⟩
          refine ⟨_, rfl, ?_⟩
          have n0_ := Aside0.mk (below_step (be_ HB.out) hb)
          clear HB
          have HB := n0_
          clear n0_
          (try clear hb)
          (try clear hb2)
          (try clear hk)
          (try clear hi)
          refine hK.out _ _ ⟨((HB.out.cell (World.block_lt_of_cell? w _ hw473_0)).trans hw473_0), ((HB.out.cell (World.block_lt_of_cell? w _ hw473_1)).trans hw473_1), ((HB.out.cell (World.block_lt_of_cell? w _ hw474_0)).trans hw474_0), ((HB.out.cell (World.block_lt_of_cell? w _ hw474_1)).trans hw474_1)⟩ (fun hHeld => ?_)
          clear hK K
          refine nm_ ?_
          refine pu_ 9 (some 26) (bq_ 10 0) HT_ ?_
          refine done_ (done_of HT_.out (by kernel_rfl)) ?_
          try go_wp2
          go_ret
          exact ⟨by first | rfl | (simp [errW_none, errW_some] <;> rfl) | (simp [*, errW_none, errW_some] <;> rfl), be_ HB.out⟩
      · rw [if_neg c4] at H
        have c4b0 : decide (x5_1 < (l0.length : Int)) = false := decide_eq_false c4
        clear c4
        obtain rfl := Option.some.inj H
        go_wp2
        go_ret
        exact ⟨by first | rfl | (simp [errW_none, errW_some] <;> rfl) | (simp [*, errW_none, errW_some] <;> rfl), be_ HB.out⟩
  · rw [if_neg c3] at H
    have c3b0 : ((l0.length : Int) == (l1.length : Int)) = false := beq_eq_false_iff_ne.mpr c3
    have c3b1 : ((l0.length : Int) != (l1.length : Int)) = true := bne_iff_ne.mpr c3
    have c3b2 : (l0.length == l1.length) = false := by first | simpa using c3 | (simp at c3 ⊢; omega)
    obtain rfl := Option.some.inj H
    go_enter Try.func23, Try.ntmps23
    go_wp2
    go_ret
    exact ⟨by first | rfl | (simp [errW_none, errW_some] <;> rfl) | (simp [*, errW_none, errW_some] <;> rfl), be_ HB.out⟩

/-! ###  laws_markText: function 53 -/
def laws_markText.l0 : Nat → Int → ByteArray → Option (ByteArray)
  | 0, _, _ => none
  | k + 1, x0, x3 => if x0 > 0 then ((some (([(wrap64 (48 + (Int.tmod x0 10))) % 256] : List Int) : List Int)).bind fun y476 => (if (strOfNums y476).size + x3.size ≤ 9223372036854775807 then (laws_markText.l0 k (wrap64 (Int.tdiv x0 10)) ((strOfNums y476) ++ x3)) else (none))) else (if 1 + x3.size ≤ 9223372036854775807 then (some ((⟨#[109]⟩ : ByteArray) ++ x3)) else (none))
def laws_markText.f (k : Nat) (a0 : Int) : Option (ByteArray) := if a0 ≤ 0 then (some (⟨#[109, 48]⟩ : ByteArray)) else (laws_markText.l0 k a0 (⟨#[]⟩ : ByteArray))
set_option maxHeartbeats 8000000 in
set_option maxRecDepth 100000 in
theorem laws_markText.calls (k : Nat) (a0 : Int) (r : ByteArray) (w : World) (h : laws_markText.f k a0 = some r) :
  Calls Try.prog 53 #[.int .i64 a0] w fun e w' => e = .returned (.string r) ∧ Below w.heap.size w w' := by
  have HB := Aside0.mk (Below.refl w.heap.size w)
  have H : (if a0 ≤ 0 then (some (⟨#[109, 48]⟩ : ByteArray)) else (laws_markText.l0 k a0 (⟨#[]⟩ : ByteArray))) = some r := h
  clear h
  by_cases c2 : a0 ≤ 0
  · rw [if_pos c2] at H
    have c2b0 : decide (a0 ≤ 0) = true := decide_eq_true c2
    clear c2
    obtain rfl := Option.some.inj H
    go_enter Try.func53, Try.ntmps53
    go_wp2
    go_ret
    exact ⟨by first | rfl | (simp [errW_none, errW_some] <;> rfl) | (simp [*, errW_none, errW_some] <;> rfl), be_ HB.out⟩
  · rw [if_neg c2] at H
    have c2b0 : decide (a0 ≤ 0) = false := decide_eq_false c2
    clear c2
    have H' := Aside0.mk H
    clear H
    go_enter Try.func53, Try.ntmps53
    go_wp2
    go_loopg [0, 3] k (fun kq v0 v3 w' => ∃ (x0_1 : Int) (x3_1 : ByteArray), v0 = .int .i64 x0_1 ∧ v3 = .string x3_1 ∧ Aside0 (laws_markText.l0 kq x0_1 x3_1 = some r) ∧ Aside0 (kq ≤ k) ∧ Aside0 (Below w.heap.size w w'))
    case atStart => exact ⟨(a0), ((⟨#[]⟩ : ByteArray)), (by first | rfl | (simp; done) | (simp [*]; done)), (by first | rfl | (simp; done) | (simp [*]; done)), H', ⟨Nat.le_refl _⟩, ⟨be_ HB.out⟩⟩
    case round =>
     clear H'
     try clear c2
     try clear c2b0
     try clear p2
     obtain ⟨x0_1, x3_1, rfl, rfl, HA, HK1, HB⟩ := hrel
     cases gk with
     | zero => exact absurd HA.out (by simp [laws_markText.l0])
     | succ k1 =>
      have H := HA.out
      clear HA
      simp only [laws_markText.l0] at H
      by_cases c3 : x0_1 > 0
      · rw [if_pos c3] at H
        have c3b0 : decide (0 < x0_1) = true := decide_eq_true c3
        clear c3
        obtain ⟨y476, hy476⟩ : ∃ y_ : List Int, y_ = (([(wrap64 (48 + (Int.tmod x0_1 10))) % 256] : List Int)) := ⟨_, rfl⟩
        replace H : (if (strOfNums y476).size + x3_1.size ≤ 9223372036854775807 then (laws_markText.l0 k1 (wrap64 (Int.tdiv x0_1 10)) ((strOfNums y476) ++ x3_1)) else (none)) = some r := by first | (rw [hy476]; with_reducible exact H) | (have H2_ := (Option.bind_some _ _).symm.trans H; rw [hy476]; with_reducible exact H2_) | (have H2_ := (Option.bind_some _ _).symm.trans H; with_reducible exact H2_) | with_reducible exact H | (rw [hy476]; exact H) | exact H
        have Ny476 := Aside0.mk hy476
        clear hy476
        by_cases c4 : (strOfNums y476).size + x3_1.size ≤ 9223372036854775807
        rotate_left
        · rw [if_neg c4] at H; exact absurd H (by simp)
        rw [if_pos c4] at H
        have c4b0 := eq_true c4
        have c4b1 : decide ((strOfNums y476).size + x3_1.size ≤ 9223372036854775807) = true := decide_eq_true c4
        try have c4b2 : (9223372036854775807 < (strOfNums y476).size + x3_1.size) = False := eq_false (Nat.not_lt.2 c4)
        have H' := Aside0.mk H
        clear H
        go_wp2_with (first | ((with_reducible refine gate_dst (N := 12) rfl ?_); refine Kd.R_lit (Kd.int .u8) _ 5 ?hg (N := 12) ?hd (xs := ([(wrap64 (48 + (Int.tmod x0_1 10))) % 256] : List Int)) (inner := [.int .u8 ((wrap64 (48 + (Int.tmod x0_1 10))) % 256)]) (ok := fun _ => True) (okp := fun _ => True) ?hr ?hp (fun _ hk => hk) trivial (Below.refl _ _) (Nat.le_refl _) (by simp) ?_; (case hd => rfl); (case hg => rfl); (case hr => first | (go_simp; done) | (go_simp; rfl)); (case hp => exact (Reps.one (show Kd.M (Kd.int .u8) _ _ _ ((wrap64 (48 + (Int.tmod x0_1 10))) % 256) [.int .u8 ((wrap64 (48 + (Int.tmod x0_1 10))) % 256)] from rfl) (Reps.none _ _))); intro v477 w5 ho6 hb hg_ hnew_; clear hg_ hnew_; (first | rw [← Ny476.out] at ho6 | (simp only [Int.reduceToNat] at ho6; rw [← Ny476.out] at ho6)); have n0_ := Aside0.mk (Kd.R_lower ho6 (below_size (be_ HB.out))); have n1_ := Aside0.mk (below_step (be_ HB.out) hb); clear HB; have HO478 := n0_; have HB := n1_; clear n0_ n1_; clear hb ho6; have hcv7 := own_string (P := Try.prog) Try.underlying24 Try.underlying5 Try.underlying9 (Kd.own_of_R HO478.out)))
        go_roundg k1
        case measure => have := HK1.out; omega
        case rel => exact ⟨(wrap64 (Int.tdiv x0_1 10)), ((strOfNums y476) ++ x3_1), (by first | rfl | (simp; done) | (simp [*]; done)), (by first | rfl | (simp; done) | (simp [*]; done)), H', ⟨by have := HK1.out; omega⟩, ⟨be_ HB.out⟩⟩
      · rw [if_neg c3] at H
        have c3b0 : decide (0 < x0_1) = false := decide_eq_false c3
        clear c3
        by_cases c8 : 1 + x3_1.size ≤ 9223372036854775807
        rotate_left
        · rw [if_neg c8] at H; exact absurd H (by simp)
        rw [if_pos c8] at H
        have c8b0 := eq_true c8
        have c8b1 : decide (1 + x3_1.size ≤ 9223372036854775807) = true := decide_eq_true c8
        try have c8b2 : (9223372036854775807 < 1 + x3_1.size) = False := eq_false (Nat.not_lt.2 c8)
        obtain rfl := Option.some.inj H
        go_wp2
        go_ret
        exact ⟨by first | rfl | (simp [errW_none, errW_some] <;> rfl) | (simp [*, errW_none, errW_some] <;> rfl), be_ HB.out⟩

/-! ###  laws_markPairS: function 24 -/
def laws_markPairS.l0 : Nat → List (S39) → Int → Int → Option (Int × (List (S39)))
  | 0, _, _, _ => none
  | k + 1, x0, x1, x5 => if x5 < (x0.length : Int) then ((laws_markText.f k x1).bind fun t479 => (if 0 ≤ x5 then ((some (x0.set (x5 : Int).toNat (⟨t479, (rd_T39 x0 x5).f1⟩ : S39) : List (S39))).bind fun y480 => ((laws_markText.f k (wrap64 (x1 + 1))).bind fun t481 => (laws_markPairS.l0 k (y480.set (x5 : Int).toNat (⟨(rd_T39 y480 x5).f0, t481⟩ : S39)) (wrap64 ((wrap64 (x1 + 1)) + 1)) (wrap64 (x5 + 1))))) else (none))) else (some (x1, x0))
def laws_markPairS.f (k : Nat) (l0 : List (S39)) (a1 : Int) : Option (Int × (List (S39))) := laws_markPairS.l0 k l0 a1 0
set_option maxHeartbeats 8000000 in
set_option maxRecDepth 100000 in
theorem laws_markPairS.calls (k : Nat) (P0_ : Nat → Prop) (u9000_ : Value) (l0 : List (S39)) (a1 : Int) (r1 : Int) (r2 : List (S39)) (w0 w : World) (hB : Below w0.heap.size w0 w) (ho0 : Kd.R k39 39 w w0.heap.size P0_ u9000_ l0) (h : laws_markPairS.f k l0 a1 = some (r1, r2)) :
  Calls Try.prog 24 #[u9000_, .int .i64 a1] w fun e w' => e = .returned (.int .i64 r1) ∧ Kd.R k39 39 w' w0.heap.size (fun k_ => (P0_ k_ ∨ w.heap.size ≤ k_)) u9000_ r2 ∧ Below w0.heap.size w0 w' ∧ Kept w w' (fun k_ => P0_ k_) := by
  have HO0 := Aside0.mk (show Kd.R k39 39 w w0.heap.size (fun k_ => (P0_ k_ ∨ w.heap.size ≤ k_)) u9000_ l0 from Kd.R_mono ho0 (fun k_ hk => (.inl hk)))
  have HK := Aside0.mk (Kept.refl w (fun k_ => P0_ k_))
  have HW0 := Aside0.mk hB.size
  have HB := Aside0.mk hB
  clear hB
  have H : (laws_markPairS.l0 k l0 a1 0) = some (r1, r2) := h
  clear h
  have H' := Aside0.mk H
  clear H
  go_enter Try.func24, Try.ntmps24
  go_wp2
  go_loopg [1, 5] k (fun kq v1 v5 w' => ∃ (x0_1 : List (S39)) (x1_1 : Int) (x5_1 : Int), v1 = .int .i64 x1_1 ∧ v5 = .int .i64 x5_1 ∧ Aside0 (laws_markPairS.l0 kq x0_1 x1_1 x5_1 = some (r1, r2)) ∧ Aside0 (kq ≤ k) ∧ Aside0 (Kd.R k39 39 w' w0.heap.size (fun k_ => (P0_ k_ ∨ w.heap.size ≤ k_)) u9000_ x0_1) ∧ Aside0 (Kept w w' (fun k_ => P0_ k_)) ∧ Aside0 (Below w0.heap.size w0 w'))
  case atStart => exact ⟨(l0), (a1), (0), (by first | rfl | (simp; done) | (simp [*]; done)), (by first | rfl | (simp; done) | (simp [*]; done)), H', ⟨Nat.le_refl _⟩, ⟨by (with_reducible repeat (first | apply Kd.R_alloc | apply Kd.R_drewN | apply Kd.R_drew)); exact HO0.out⟩, ⟨by repeat (first | (with_reducible first | exact HK.out | apply Kept.alloc | apply Kept.drewN | apply Kept.drew) | exact HK.out)⟩, ⟨be_ HB.out⟩⟩
  case round =>
   clear H'
   try clear c2
   try clear p2
   obtain ⟨x0_1, x1_1, x5_1, rfl, rfl, HA, HK1, HO_0, HK, HB⟩ := hrel
   cases gk with
   | zero => exact absurd HA.out (by simp [laws_markPairS.l0])
   | succ k1 =>
    have H := HA.out
    clear HA
    simp only [laws_markPairS.l0] at H
    by_cases c3 : x5_1 < (x0_1.length : Int)
    · rw [if_pos c3] at H
      have c3b0 : decide (x5_1 < (x0_1.length : Int)) = true := decide_eq_true c3
      clear c3
      replace H := Option.bind_eq_some_iff.mp H
      obtain ⟨t479, A40, H⟩ := H
      have A4 := Aside0.mk A40
      clear A40
      by_cases c5 : 0 ≤ x5_1
      rotate_left
      · rw [if_neg c5] at H; exact absurd H (by simp)
      rw [if_pos c5] at H
      have c5b0 : decide (0 ≤ x5_1) = true := decide_eq_true c5
      clear c5
      obtain ⟨y480, hy480⟩ : ∃ y_ : List (S39), y_ = (x0_1.set (x5_1 : Int).toNat (⟨t479, (rd_T39 x0_1 x5_1).f1⟩ : S39)) := ⟨_, rfl⟩
      replace H : ((laws_markText.f k1 (wrap64 (x1_1 + 1))).bind fun t481 => (laws_markPairS.l0 k1 (y480.set (x5_1 : Int).toNat (⟨(rd_T39 y480 x5_1).f0, t481⟩ : S39)) (wrap64 ((wrap64 (x1_1 + 1)) + 1)) (wrap64 (x5_1 + 1)))) = some (r1, r2) := by first | (rw [hy480]; with_reducible exact H) | (have H2_ := (Option.bind_some _ _).symm.trans H; rw [hy480]; with_reducible exact H2_) | (have H2_ := (Option.bind_some _ _).symm.trans H; with_reducible exact H2_) | with_reducible exact H | (rw [hy480]; exact H) | exact H
      have Ny480 := Aside0.mk hy480
      clear hy480
      replace H := Option.bind_eq_some_iff.mp H
      obtain ⟨t481, A70, H⟩ := H
      have A7 := Aside0.mk A70
      clear A70
      obtain ⟨y482, hy482⟩ : ∃ y_ : List (S39), y_ = (y480.set (x5_1 : Int).toNat (⟨(rd_T39 y480 x5_1).f0, t481⟩ : S39)) := ⟨_, rfl⟩
      replace H : (laws_markPairS.l0 k1 y482 (wrap64 ((wrap64 (x1_1 + 1)) + 1)) (wrap64 (x5_1 + 1))) = some (r1, r2) := by first | (rw [hy482]; with_reducible exact H) | (have H2_ := (Option.bind_some _ _).symm.trans H; rw [hy482]; with_reducible exact H2_) | (have H2_ := (Option.bind_some _ _).symm.trans H; with_reducible exact H2_) | with_reducible exact H | (rw [hy482]; exact H) | exact H
      have Ny482 := Aside0.mk hy482
      clear hy482
      have H' := Aside0.mk H
      clear H
      obtain ⟨Ao9, co9, eo9⟩ := Kd.R_slice HO_0.out
      subst eo9
      go_wp2_with (first | ((with_reducible refine gate_callee (f := 53) rfl ?_); refine goesL_ (some 15) rfl rfl Try.func53 (by kernel_rfl) rfl #[.int .i64 x1_1] rfl al_ ?_; (with_reducible refine (laws_markText.calls k1 x1_1 t479 _ A4.out).mono ?_); rintro e w10 ⟨rfl, hb⟩; refine ⟨_, rfl, ?_⟩; have n0_ := Aside0.mk (Kd.R_below (kr_ HO_0.out) hb); have n1_ := Aside0.mk (Kept.below (S := (fun k_ => P0_ k_)) (by repeat (first | (with_reducible first | exact HK.out | apply Kept.alloc | apply Kept.drewN | apply Kept.drew) | exact HK.out)) hb); have n2_ := Aside0.mk (below_step (be_ HB.out) hb); clear HO_0; clear HK; clear HB; have HO_0 := n0_; have HK := n1_; have HB := n2_; clear n0_ n1_ n2_; (try clear hb); (try clear hb2); (try clear hk); (try clear hi); have p6 : 0 ≤ (x5_1 : Int) := of_decide_eq_true (by first | (with_reducible assumption) | assumption); have q6 : (x5_1 : Int) < ((x0_1.length : Int) : Int) := of_decide_eq_true (by first | (with_reducible assumption) | assumption); obtain ⟨go6, co6, eo6, gb6, gl6, cl6, HG6⟩ := Kd.R_form HO_0.out (by omega); (first | cases eo6 | (injection eo6 with ea_ en_ ec_; (first | subst ea_ | (injection ea_ with ea_; subst ea_)); subst ec_; clear en_)); have GB6 := Aside0.mk gb6; have GG6 := Aside0.mk HG6; clear gb6 gl6 HG6; have HMgo6 := Aside0.mk (show (P0_ go6 ∨ w.heap.size ≤ go6) from (HO_0.out.1 _ rfl)); obtain ⟨ce6, hcl6, hM6, hcc6, hfr6⟩ := Kd.R_elem HO_0.out z39 (x5_1 : Int) p6 q6; obtain rfl := k39_openM hM6; have hx6_0 : w10.cell? ⟨go6, (x5_1 : Int).toNat * 2, none⟩ = some (.string ((rd_T39 x0_1 x5_1).f0)) := hcc6 0 _ rfl; have hx6_1 : w10.cell? ⟨go6, (x5_1 : Int).toNat * 2 + 1, none⟩ = some (.string ((rd_T39 x0_1 x5_1).f1)) := hcc6 1 _ rfl; have hf6_0 : w10.frozen? ⟨go6, (x5_1 : Int).toNat * 2, none⟩ = false := hfr6 0; have hf6_1 : w10.frozen? ⟨go6, (x5_1 : Int).toNat * 2 + 1, none⟩ = false := hfr6 1; clear hcl6 hcc6 hfr6 hM6; replace p6 := eq_true p6; replace q6 := eq_true q6; have HX11 := Aside0.mk (show Kd.R k39 39 w10 w0.heap.size (fun k_ => (P0_ k_ ∨ w.heap.size ≤ k_)) (.slice (some ⟨go6, 0, none⟩) x0_1.length co9) x0_1 from (kr_ HO_0.out)); obtain ⟨ce11, hcl11, hM11, hcc11, hfr11⟩ := Kd.R_elem HX11.out z39 (x5_1 : Int) (of_decide_eq_true (by first | (with_reducible assumption) | assumption)) (by have h_ : (x5_1 : Int) < ((x0_1.length : Int) : Int) := of_decide_eq_true (by first | (with_reducible assumption) | assumption); first | exact h_ | (have e_ := (Kd.R_reads' HO_0.out).1; omega) | simpa using h_); obtain rfl := k39_openM hM11; have HP11 := Kd.R_seg HX11.out (x5_1 : Int) (of_decide_eq_true (by first | (with_reducible assumption) | assumption)) (by have h_ : (x5_1 : Int) < ((x0_1.length : Int) : Int) := of_decide_eq_true (by first | (with_reducible assumption) | assumption); first | exact h_ | (have e_ := (Kd.R_reads' HO_0.out).1; omega) | simpa using h_) (seg := [.string t479]) (j := 0) hcl11 hcc11 (show 1 ≤ 2 from by decide) (x' := (⟨t479, (rd_T39 x0_1 x5_1).f1⟩ : S39)) (k39_mkM _ _ _ (⟨t479, (rd_T39 x0_1 x5_1).f1⟩ : S39) ) (fun _ hk => hk); have hx11_0 := hcc11 0 _ rfl; (try simp only [show (k39).sz = 2 from rfl, Nat.mul_one, Nat.add_zero] at hx11_0); have hf11_0 := hfr11 0; (try simp only [show (k39).sz = 2 from rfl, Nat.mul_one, Nat.add_zero] at hf11_0); clear hcl11 hcc11 hfr11 hM11) | ((with_reducible refine gate_store (t := 9) (p := 17) rfl ?_); refine store_event (t := 9) (p := 17) (v := ?vo_w12) (w1 := (w10.setCell ⟨go6, (x5_1 : Int).toNat * 2, none⟩ (.string t479))) ?hg ?ho ?hn ?hr ?_; (case ho => rfl); (case hg => rfl); (case hn => rfl); (case hr => first | (go_simp; done) | (go_simp; rfl)); intro w12 hw; have hg : w10.grownBy w12 (some go6) := (by rw [hw]; exact HP11.2); have hp_ : Kd.R k39 39 w12 w0.heap.size (fun k_ => (P0_ k_ ∨ w.heap.size ≤ k_)) (.slice (some ⟨go6, 0, none⟩) x0_1.length co9) y480 := (by rw [hw, Ny480.out]; exact HP11.1); clear HP11; have n0_ := Aside0.mk (hp_); have n1_ := Aside0.mk ((by rw [hw]; exact below_set (HB.out) GB6.out : Below w0.heap.size w0 w12)); have n2_ := Aside0.mk (Kept.of_grown (S := (fun k_ => P0_ k_)) hg (by repeat (first | (with_reducible first | exact HK.out | apply Kept.alloc | apply Kept.drewN | apply Kept.drew) | exact HK.out)) (fun k_ e_ => (HO_0.out.1 k_ e_))); clear HO_0; clear HB; clear HK; have HO_0 := n0_; have HB := n1_; have HK := n2_; clear n0_ n1_ n2_; clear hg hw hp_) | ((with_reducible refine gate_callee (f := 53) rfl ?_); refine goesL_ (some 23) rfl rfl Try.func53 (by kernel_rfl) rfl #[.int .i64 (wrap64 (x1_1 + 1))] rfl al_ ?_; (with_reducible refine (laws_markText.calls k1 (wrap64 (x1_1 + 1)) t481 _ A7.out).mono ?_); rintro e w13 ⟨rfl, hb⟩; refine ⟨_, rfl, ?_⟩; have n0_ := Aside0.mk (Kd.R_below (kr_ HO_0.out) hb); have n1_ := Aside0.mk (Kept.below (S := (fun k_ => P0_ k_)) (by repeat (first | (with_reducible first | exact HK.out | apply Kept.alloc | apply Kept.drewN | apply Kept.drew) | exact HK.out)) hb); have n2_ := Aside0.mk (below_step (be_ HB.out) hb); clear HO_0; clear HK; clear HB; have HO_0 := n0_; have HK := n1_; have HB := n2_; clear n0_ n1_ n2_; (try clear hb); (try clear hb2); (try clear hk); (try clear hi); have p8 : 0 ≤ (x5_1 : Int) := of_decide_eq_true (by first | (with_reducible assumption) | assumption); have q8 : (x5_1 : Int) < ((x0_1.length : Int) : Int) := of_decide_eq_true (by first | (with_reducible assumption) | assumption); obtain ⟨ce8, hcl8, hM8, hcc8, hfr8⟩ := Kd.R_elem HO_0.out z39 (x5_1 : Int) p8 q8; obtain rfl := k39_openM hM8; have hx8_0 : w13.cell? ⟨go6, (x5_1 : Int).toNat * 2, none⟩ = some (.string ((rd_T39 y480 x5_1).f0)) := hcc8 0 _ rfl; have hx8_1 : w13.cell? ⟨go6, (x5_1 : Int).toNat * 2 + 1, none⟩ = some (.string ((rd_T39 y480 x5_1).f1)) := hcc8 1 _ rfl; have hf8_0 : w13.frozen? ⟨go6, (x5_1 : Int).toNat * 2, none⟩ = false := hfr8 0; have hf8_1 : w13.frozen? ⟨go6, (x5_1 : Int).toNat * 2 + 1, none⟩ = false := hfr8 1; clear hcl8 hcc8 hfr8 hM8; replace p8 := eq_true p8; replace q8 := eq_true q8; have HX14 := Aside0.mk (show Kd.R k39 39 w13 w0.heap.size (fun k_ => (P0_ k_ ∨ w.heap.size ≤ k_)) (.slice (some ⟨go6, 0, none⟩) x0_1.length co9) y480 from (kr_ HO_0.out)); obtain ⟨ce14, hcl14, hM14, hcc14, hfr14⟩ := Kd.R_elem HX14.out z39 (x5_1 : Int) (of_decide_eq_true (by first | (with_reducible assumption) | assumption)) (by have h_ : (x5_1 : Int) < ((x0_1.length : Int) : Int) := of_decide_eq_true (by first | (with_reducible assumption) | assumption); first | exact h_ | (have e_ := (Kd.R_reads' HO_0.out).1; omega) | simpa using h_); obtain rfl := k39_openM hM14; have HP14 := Kd.R_seg HX14.out (x5_1 : Int) (of_decide_eq_true (by first | (with_reducible assumption) | assumption)) (by have h_ : (x5_1 : Int) < ((x0_1.length : Int) : Int) := of_decide_eq_true (by first | (with_reducible assumption) | assumption); first | exact h_ | (have e_ := (Kd.R_reads' HO_0.out).1; omega) | simpa using h_) (seg := [.string t481]) (j := 1) hcl14 hcc14 (show 2 ≤ 2 from by decide) (x' := (⟨(rd_T39 y480 x5_1).f0, t481⟩ : S39)) (k39_mkM _ _ _ (⟨(rd_T39 y480 x5_1).f0, t481⟩ : S39) ) (fun _ hk => hk); have hx14_1 := hcc14 1 _ rfl; (try simp only [show (k39).sz = 2 from rfl, Nat.mul_one, Nat.add_zero] at hx14_1); have hf14_1 := hfr14 1; (try simp only [show (k39).sz = 2 from rfl, Nat.mul_one, Nat.add_zero] at hf14_1); clear hcl14 hcc14 hfr14 hM14) | ((with_reducible refine gate_store (t := 9) (p := 25) rfl ?_); refine store_event (t := 9) (p := 25) (v := ?vo_w15) (w1 := (w13.setCell ⟨go6, (x5_1 : Int).toNat * 2 + 1, none⟩ (.string t481))) ?hg ?ho ?hn ?hr ?_; (case ho => rfl); (case hg => rfl); (case hn => rfl); (case hr => first | (go_simp; done) | (go_simp; rfl)); intro w15 hw; have hg : w13.grownBy w15 (some go6) := (by rw [hw]; exact HP14.2); have hp_ : Kd.R k39 39 w15 w0.heap.size (fun k_ => (P0_ k_ ∨ w.heap.size ≤ k_)) (.slice (some ⟨go6, 0, none⟩) x0_1.length co9) y482 := (by rw [hw, Ny482.out]; exact HP14.1); clear HP14; have n0_ := Aside0.mk (hp_); have n1_ := Aside0.mk ((by rw [hw]; exact below_set (HB.out) GB6.out : Below w0.heap.size w0 w15)); have n2_ := Aside0.mk (Kept.of_grown (S := (fun k_ => P0_ k_)) hg (by repeat (first | (with_reducible first | exact HK.out | apply Kept.alloc | apply Kept.drewN | apply Kept.drew) | exact HK.out)) (fun k_ e_ => (HO_0.out.1 k_ e_))); clear HO_0; clear HB; clear HK; have HO_0 := n0_; have HB := n1_; have HK := n2_; clear n0_ n1_ n2_; clear hg hw hp_))
      go_roundg k1
      case measure => have := HK1.out; omega
      case rel => exact ⟨(y482), (wrap64 ((wrap64 (x1_1 + 1)) + 1)), (wrap64 (x5_1 + 1)), (by first | rfl | (simp; done) | (simp [*]; done)), (by first | rfl | (simp; done) | (simp [*]; done)), H', ⟨by have := HK1.out; omega⟩, ⟨by (with_reducible repeat (first | apply Kd.R_alloc | apply Kd.R_drewN | apply Kd.R_drew)); exact HO_0.out⟩, ⟨by repeat (first | (with_reducible first | exact HK.out | apply Kept.alloc | apply Kept.drewN | apply Kept.drew) | exact HK.out)⟩, ⟨be_ HB.out⟩⟩
    · rw [if_neg c3] at H
      have c3b0 : decide (x5_1 < (x0_1.length : Int)) = false := decide_eq_false c3
      clear c3
      simp only [Option.some.injEq, Prod.mk.injEq] at H
      obtain ⟨rfl, rfl⟩ := H
      obtain ⟨Ao16, co16, eo16⟩ := Kd.R_slice HO_0.out
      subst eo16
      go_wp2
      go_ret
      exact ⟨by first | rfl | (simp [errW_none, errW_some] <;> rfl) | (simp [*, errW_none, errW_some] <;> rfl), by (with_reducible repeat (first | apply Kd.R_alloc | apply Kd.R_drewN | apply Kd.R_drew)); exact HO_0.out, be_ HB.out, by repeat (first | (with_reducible first | exact HK.out | apply Kept.alloc | apply Kept.drewN | apply Kept.drew) | exact HK.out)⟩

/-! ###  laws_markStringS: function 80 -/
def laws_markStringS.l0 : Nat → List ByteArray → Int → Int → Option (Int × List ByteArray)
  | 0, _, _, _ => none
  | k + 1, x0, x1, x5 => if x5 < (x0.length : Int) then ((laws_markText.f k x1).bind fun t483 => (if 0 ≤ x5 then (laws_markStringS.l0 k (x0.set (x5 : Int).toNat t483) (wrap64 (x1 + 1)) (wrap64 (x5 + 1))) else (none))) else (some (x1, x0))
def laws_markStringS.f (k : Nat) (l0 : List ByteArray) (a1 : Int) : Option (Int × List ByteArray) := laws_markStringS.l0 k l0 a1 0
set_option maxHeartbeats 8000000 in
set_option maxRecDepth 100000 in
theorem laws_markStringS.calls (k : Nat) (P0_ : Nat → Prop) (u9000_ : Value) (l0 : List ByteArray) (a1 : Int) (r1 : Int) (r2 : List ByteArray) (w0 w : World) (hB : Below w0.heap.size w0 w) (ho0 : Kd.R Kd.string 9 w w0.heap.size P0_ u9000_ l0) (h : laws_markStringS.f k l0 a1 = some (r1, r2)) :
  Calls Try.prog 80 #[u9000_, .int .i64 a1] w fun e w' => e = .returned (.int .i64 r1) ∧ Kd.R Kd.string 9 w' w0.heap.size (fun k_ => (P0_ k_ ∨ w.heap.size ≤ k_)) u9000_ r2 ∧ Below w0.heap.size w0 w' ∧ Kept w w' (fun k_ => P0_ k_) := by
  have HO0 := Aside0.mk (show Kd.R Kd.string 9 w w0.heap.size (fun k_ => (P0_ k_ ∨ w.heap.size ≤ k_)) u9000_ l0 from Kd.R_mono ho0 (fun k_ hk => (.inl hk)))
  have HK := Aside0.mk (Kept.refl w (fun k_ => P0_ k_))
  have HW0 := Aside0.mk hB.size
  have HB := Aside0.mk hB
  clear hB
  have H : (laws_markStringS.l0 k l0 a1 0) = some (r1, r2) := h
  clear h
  have H' := Aside0.mk H
  clear H
  go_enter Try.func80, Try.ntmps80
  go_wp2
  go_loopg [1, 5] k (fun kq v1 v5 w' => ∃ (x0_1 : List ByteArray) (x1_1 : Int) (x5_1 : Int), v1 = .int .i64 x1_1 ∧ v5 = .int .i64 x5_1 ∧ Aside0 (laws_markStringS.l0 kq x0_1 x1_1 x5_1 = some (r1, r2)) ∧ Aside0 (kq ≤ k) ∧ Aside0 (Kd.R Kd.string 9 w' w0.heap.size (fun k_ => (P0_ k_ ∨ w.heap.size ≤ k_)) u9000_ x0_1) ∧ Aside0 (Kept w w' (fun k_ => P0_ k_)) ∧ Aside0 (Below w0.heap.size w0 w'))
  case atStart => exact ⟨(l0), (a1), (0), (by first | rfl | (simp; done) | (simp [*]; done)), (by first | rfl | (simp; done) | (simp [*]; done)), H', ⟨Nat.le_refl _⟩, ⟨by (with_reducible repeat (first | apply Kd.R_alloc | apply Kd.R_drewN | apply Kd.R_drew)); exact HO0.out⟩, ⟨by repeat (first | (with_reducible first | exact HK.out | apply Kept.alloc | apply Kept.drewN | apply Kept.drew) | exact HK.out)⟩, ⟨be_ HB.out⟩⟩
  case round =>
   clear H'
   try clear p2
   obtain ⟨x0_1, x1_1, x5_1, rfl, rfl, HA, HK1, HO_0, HK, HB⟩ := hrel
   cases gk with
   | zero => exact absurd HA.out (by simp [laws_markStringS.l0])
   | succ k1 =>
    have H := HA.out
    clear HA
    simp only [laws_markStringS.l0] at H
    by_cases c3 : x5_1 < (x0_1.length : Int)
    · rw [if_pos c3] at H
      have c3b0 : decide (x5_1 < (x0_1.length : Int)) = true := decide_eq_true c3
      clear c3
      replace H := Option.bind_eq_some_iff.mp H
      obtain ⟨t483, A40, H⟩ := H
      have A4 := Aside0.mk A40
      clear A40
      by_cases c5 : 0 ≤ x5_1
      rotate_left
      · rw [if_neg c5] at H; exact absurd H (by simp)
      rw [if_pos c5] at H
      have c5b0 : decide (0 ≤ x5_1) = true := decide_eq_true c5
      clear c5
      obtain ⟨y484, hy484⟩ : ∃ y_ : List ByteArray, y_ = (x0_1.set (x5_1 : Int).toNat t483) := ⟨_, rfl⟩
      replace H : (laws_markStringS.l0 k1 y484 (wrap64 (x1_1 + 1)) (wrap64 (x5_1 + 1))) = some (r1, r2) := by first | (rw [hy484]; with_reducible exact H) | (have H2_ := (Option.bind_some _ _).symm.trans H; rw [hy484]; with_reducible exact H2_) | (have H2_ := (Option.bind_some _ _).symm.trans H; with_reducible exact H2_) | with_reducible exact H | (rw [hy484]; exact H) | exact H
      have Ny484 := Aside0.mk hy484
      clear hy484
      have H' := Aside0.mk H
      clear H
      obtain ⟨Ao7, co7, eo7⟩ := Kd.R_slice HO_0.out
      subst eo7
      go_wp2_with (first | ((with_reducible refine gate_callee (f := 53) rfl ?_); refine goesL_ (some 15) rfl rfl Try.func53 (by kernel_rfl) rfl #[.int .i64 x1_1] rfl al_ ?_; (with_reducible refine (laws_markText.calls k1 x1_1 t483 _ A4.out).mono ?_); rintro e w8 ⟨rfl, hb⟩; refine ⟨_, rfl, ?_⟩; have n0_ := Aside0.mk (Kd.R_below (kr_ HO_0.out) hb); have n1_ := Aside0.mk (Kept.below (S := (fun k_ => P0_ k_)) (by repeat (first | (with_reducible first | exact HK.out | apply Kept.alloc | apply Kept.drewN | apply Kept.drew) | exact HK.out)) hb); have n2_ := Aside0.mk (below_step (be_ HB.out) hb); clear HO_0; clear HK; clear HB; have HO_0 := n0_; have HK := n1_; have HB := n2_; clear n0_ n1_ n2_; (try clear hb); (try clear hb2); (try clear hk); (try clear hi); have p6 : 0 ≤ (x5_1 : Int) := of_decide_eq_true (by first | (with_reducible assumption) | assumption); have q6 : (x5_1 : Int) < ((x0_1.length : Int) : Int) := of_decide_eq_true (by first | (with_reducible assumption) | assumption); obtain ⟨go6, co6, eo6, gb6, gl6, cl6, HG6⟩ := Kd.R_form HO_0.out (by omega); (first | cases eo6 | (injection eo6 with ea_ en_ ec_; (first | subst ea_ | (injection ea_ with ea_; subst ea_)); subst ec_; clear en_)); have GB6 := Aside0.mk gb6; have GG6 := Aside0.mk HG6; clear gb6 gl6 HG6; have HMgo6 := Aside0.mk (show (P0_ go6 ∨ w.heap.size ≤ go6) from (HO_0.out.1 _ rfl)); obtain ⟨hx6_0, hf6_0⟩ := Kd.R_celln (⟨#[]⟩ : ByteArray) HO_0.out (x5_1 : Int) p6 q6; replace p6 := eq_true p6; replace q6 := eq_true q6; obtain ⟨hy9_, hz9_⟩ := Kd.R_celln (⟨#[]⟩ : ByteArray) HO_0.out (x5_1 : Int) (of_decide_eq_true (by first | (with_reducible assumption) | assumption)) (of_decide_eq_true (by first | (with_reducible assumption) | assumption)); have HP9 := Kd.R_putg HO_0.out (x5_1 : Int) t483) | ((with_reducible refine gate_store (t := 9) (p := 16) rfl ?_); refine store_event (t := 9) (p := 16) (v := ?vo_w10) (w1 := (w8.setCell ⟨go6, (x5_1 : Int).toNat, none⟩ (.string t483))) ?hg ?ho ?hn ?hr ?_; (case ho => rfl); (case hg => rfl); (case hn => rfl); (case hr => first | (go_simp; done) | (go_simp; rfl)); intro w10 hw; have hg : w8.grownBy w10 (some go6) := (by rw [hw]; exact HP9.2); have hp_ : Kd.R Kd.string 9 w10 w0.heap.size (fun k_ => (P0_ k_ ∨ w.heap.size ≤ k_)) (.slice (some ⟨go6, 0, none⟩) x0_1.length co7) y484 := (by rw [hw, Ny484.out]; exact HP9.1); clear HP9; have n0_ := Aside0.mk (hp_); have n1_ := Aside0.mk ((by rw [hw]; exact below_set (HB.out) GB6.out : Below w0.heap.size w0 w10)); have n2_ := Aside0.mk (Kept.of_grown (S := (fun k_ => P0_ k_)) hg (by repeat (first | (with_reducible first | exact HK.out | apply Kept.alloc | apply Kept.drewN | apply Kept.drew) | exact HK.out)) (fun k_ e_ => (HO_0.out.1 k_ e_))); clear HO_0; clear HB; clear HK; have HO_0 := n0_; have HB := n1_; have HK := n2_; clear n0_ n1_ n2_; clear hg hw hp_))
      go_roundg k1
      case measure => have := HK1.out; omega
      case rel => exact ⟨(y484), (wrap64 (x1_1 + 1)), (wrap64 (x5_1 + 1)), (by first | rfl | (simp; done) | (simp [*]; done)), (by first | rfl | (simp; done) | (simp [*]; done)), H', ⟨by have := HK1.out; omega⟩, ⟨by (with_reducible repeat (first | apply Kd.R_alloc | apply Kd.R_drewN | apply Kd.R_drew)); exact HO_0.out⟩, ⟨by repeat (first | (with_reducible first | exact HK.out | apply Kept.alloc | apply Kept.drewN | apply Kept.drew) | exact HK.out)⟩, ⟨be_ HB.out⟩⟩
    · rw [if_neg c3] at H
      have c3b0 : decide (x5_1 < (x0_1.length : Int)) = false := decide_eq_false c3
      clear c3
      simp only [Option.some.injEq, Prod.mk.injEq] at H
      obtain ⟨rfl, rfl⟩ := H
      obtain ⟨Ao11, co11, eo11⟩ := Kd.R_slice HO_0.out
      subst eo11
      go_wp2
      go_ret
      exact ⟨by first | rfl | (simp [errW_none, errW_some] <;> rfl) | (simp [*, errW_none, errW_some] <;> rfl), by (with_reducible repeat (first | apply Kd.R_alloc | apply Kd.R_drewN | apply Kd.R_drew)); exact HO_0.out, be_ HB.out, by repeat (first | (with_reducible first | exact HK.out | apply Kept.alloc | apply Kept.drewN | apply Kept.drew) | exact HK.out)⟩

/-! ### laws_markProof: function 25 -/
-- by hand
theorem mi_key {W : World} {base : Nat} {ok : Nat → Prop} {g n cap : Nat} {l : List S79} (h : Kd.S k79 79 W base ok (.slice (some ⟨g, 0, none⟩) n cap) l) (i : Nat) (hi : i < n) (t : ByteArray) {y : S79} (hy : l.getD i z79 = y) :
    (∃ u, W.cell? ⟨g, i * 3, none⟩ = some u) ∧ W.frozen? ⟨g, i * 3, none⟩ = false ∧ Kd.S k79 79 (W.setCell ⟨g, i * 3, none⟩ (.string t)) base ok (.slice (some ⟨g, 0, none⟩) n cap) (l.set i ⟨⟨t, y.f0.f1⟩, y.f1⟩) ∧ W.grownBy (W.setCell ⟨g, i * 3, none⟩ (.string t)) (some g) := by
  obtain ⟨oki, c, hcl, hM, hcc, hfr, hoki, hH⟩ := Kd.S_elem h z79 (i : Int) (by omega) (by omega)
  obtain ⟨v2, rfl, g2⟩ := k79_openM hM
  have g3 : Kd.string.R 9 W base oki v2 y.f1 := hy ▸ g2
  have e1 : (l.getD (i : Int).toNat z79) = y := hy
  rw [e1] at hH
  have hs := Kd.S_seg0 hH (by omega) (by omega) (seg := [.string t]) (j := 0) (show 0 + 1 ≤ 3 by decide) (x' := ⟨⟨t, y.f0.f1⟩, y.f1⟩) (okp := oki) (k79_mkM W base oki ⟨⟨t, y.f0.f1⟩, y.f1⟩ g3) (fun _ hk => hk)
  exact ⟨⟨_, hcc 0 _ rfl⟩, hfr 0, hs.1, hs.2⟩
theorem mi_get {l : List S79} {i : Nat} (hi : i < l.length) (y : S79) : (l.set i y).getD i z79 = y := by
  rw [List.getD_eq_getElem?_getD, List.getElem?_set_self hi]
  rfl
theorem mi_val {W : World} {base : Nat} {ok : Nat → Prop} {g n cap : Nat} {l : List S79} {y : S79} {i : Nat} (h : Kd.S k79 79 W base ok (.slice (some ⟨g, 0, none⟩) n cap) (l.set i y)) (hi : i < n) (t : ByteArray) :
    (∃ u, W.cell? ⟨g, i * 3 + 1, none⟩ = some u) ∧ W.frozen? ⟨g, i * 3 + 1, none⟩ = false ∧ Kd.S k79 79 (W.setCell ⟨g, i * 3 + 1, none⟩ (.string t)) base ok (.slice (some ⟨g, 0, none⟩) n cap) (l.set i ⟨⟨y.f0.f0, t⟩, y.f1⟩) ∧ W.grownBy (W.setCell ⟨g, i * 3 + 1, none⟩ (.string t)) (some g) := by
  have hn := (Kd.S_reads' h).1
  rw [List.length_set] at hn
  obtain ⟨oki, c, hcl, hM, hcc, hfr, hoki, hH⟩ := Kd.S_elem h z79 (i : Int) (by omega) (by omega)
  obtain ⟨v2, rfl, g2⟩ := k79_openM hM
  have e1 : ((l.set i y).getD (i : Int).toNat z79) = y := mi_get (by omega) y
  rw [e1] at hH g2
  have hs := Kd.S_seg0 hH (by omega) (by omega) (seg := [.string t]) (j := 1) (show 1 + 1 ≤ 3 by decide) (x' := ⟨⟨y.f0.f0, t⟩, y.f1⟩) (okp := oki) (k79_mkM W base oki ⟨⟨y.f0.f0, t⟩, y.f1⟩ g2) (fun _ hk => hk)
  have e2 : (l.set i y).set (i : Int).toNat ⟨⟨y.f0.f0, t⟩, y.f1⟩ = l.set i ⟨⟨y.f0.f0, t⟩, y.f1⟩ := List.set_set ..
  rw [e2] at hs
  exact ⟨⟨_, hcc 1 _ rfl⟩, hfr 1, hs.1, hs.2⟩
theorem mi_row {W : World} {base : Nat} {ok : Nat → Prop} {g n cap : Nat} {l : List S79} {y : S79} {i : Nat} (h : Kd.S k79 79 W base ok (.slice (some ⟨g, 0, none⟩) n cap) (l.set i y)) (hi : i < n) :
    ∃ oki v2, W.cell? ⟨g, i * 3 + 2, none⟩ = some v2 ∧ Kd.string.R 9 W base oki v2 y.f1 ∧ (∀ k, oki k → ok k ∧ k ≠ g) ∧ ∀ (W' : World) (r : List ByteArray), Kd.string.R 9 W' base (fun k => oki k ∨ W.heap.size ≤ k) v2 r → Kept W W' oki → Kd.S k79 79 W' base ok (.slice (some ⟨g, 0, none⟩) n cap) (l.set i ⟨y.f0, r⟩) := by
  have hn := (Kd.S_reads' h).1
  rw [List.length_set] at hn
  obtain ⟨oki, c, hcl, hM, hcc, hfr, hoki, hH⟩ := Kd.S_elem h z79 (i : Int) (by omega) (by omega)
  obtain ⟨v2, rfl, g2⟩ := k79_openM hM
  have e1 : ((l.set i y).getD (i : Int).toNat z79) = y := mi_get (by omega) y
  rw [e1] at hH g2
  refine ⟨oki, v2, hcc 2 _ rfl, g2, hoki, fun W' r hr hk => ?_⟩
  have hr2 : Kd.string.R 9 W' base oki v2 r := Kd.R_reok rfl hr (fun k hk => g2.1 k hk)
  have hs := Kd.H_back (Kd.H_kept hH hk (fun k _ hn h => hn h)) (k79_mkM W' base oki ⟨y.f0, r⟩ hr2) (fun _ hk => hk)
  have e2 : (l.set i y).set (i : Int).toNat ⟨y.f0, r⟩ = l.set i ⟨y.f0, r⟩ := List.set_set ..
  rw [e2] at hs
  exact hs
def mi (k : Nat) : Nat → Nat → List S79 → Int → Option (Int × List S79)
  | 0, _, l, a => some (a, l)
  | d + 1, i, l, a => (laws_markText.f k a).bind fun t1 => (laws_markText.f k (wrap64 (a + 1))).bind fun t2 => (laws_markStringS.f k (l.getD i z79).f1 (wrap64 (wrap64 (a + 1) + 1))).bind fun m => mi k d (i + 1) (l.set i ⟨⟨t1, t2⟩, m.2⟩) m.1
theorem mi_len (k : Nat) : ∀ (d i : Nat) (l : List S79) (a : Int) (r : Int × List S79), mi k d i l a = some r → r.2.length = l.length := by
  intro d
  induction d with
  | zero => intro i l a r h; simp only [mi, Option.some.injEq] at h; rw [← h]
  | succ d ih =>
    intro i l a r h
    rw [mi] at h
    obtain ⟨t1, _, h⟩ := Option.bind_eq_some_iff.mp h
    obtain ⟨t2, _, h⟩ := Option.bind_eq_some_iff.mp h
    obtain ⟨m, _, h⟩ := Option.bind_eq_some_iff.mp h
    rw [ih _ _ _ _ h, List.length_set]
def mi_all (k : Nat) (l : List S79) (a : Int) : Option (Int × List S79) := if l.length < 1000000000 then mi k l.length 0 l a else none
theorem mi_below {w0 w w1 : World} (h : Below w0.heap.size w0 w) (hb : Below w.heap.size w w1) : Below w0.heap.size w0 w1 := below_then h h.size hb
theorem mi_set {w0 w : World} {g j : Nat} {v : Value} (h : Below w0.heap.size w0 w) (hg : w0.heap.size ≤ g) : Below w0.heap.size w0 (w.setCell ⟨g, j, none⟩ v) := below_set h hg
theorem mi_kset {w w1 : World} {ok : Nat → Prop} {g j : Nat} {v : Value} (h : Kept w w1 ok) (hg : ok g) : Kept w (w1.setCell ⟨g, j, none⟩ v) ok := Kept.setCell h (.inl hg) v
set_option maxHeartbeats 8000000 in
set_option maxRecDepth 100000 in
theorem mi_calls (k : Nat) (A : Option Addr) (cap : Nat) (l0 : List S79) (a1 : Int) (r1 : Int) (r2 : List S79) (ok : Nat → Prop) (w0 w : World) (hB : Below w0.heap.size w0 w) (ho : Kd.S k79 79 w w0.heap.size ok (.slice A l0.length cap) l0) (h : mi_all k l0 a1 = some (r1, r2)) :
    Calls Try.prog 54 #[.slice A l0.length cap, .int .i64 a1] w fun e w' => e = .returned (.int .i64 r1) ∧ Kd.S k79 79 w' w0.heap.size ok (.slice A l0.length cap) r2 ∧ Below w0.heap.size w0 w' ∧ Kept w w' ok := by
  unfold mi_all at h
  by_cases hl : l0.length < 1000000000
  rotate_left
  · rw [if_neg hl] at h; cases h
  rw [if_pos hl] at h
  have HS0 := Aside0.mk ho
  have HB0 := Aside0.mk hB
  have H := Aside0.mk h
  clear h ho hB
  go_enter Try.func54, Try.ntmps54
  go_wp2
  go_loopw [1, 5] (fun v1 v5 wr => ∃ (i : Nat) (l : List S79) (a : Int), v1 = .int .i64 a ∧ v5 = .int .i64 (i : Int) ∧ i ≤ l0.length ∧ Aside0 (Kd.S k79 79 wr w0.heap.size ok (.slice A l0.length cap) l) ∧ Aside0 (Below w0.heap.size w0 wr) ∧ Aside0 (Kept w wr ok) ∧ Aside0 (mi k (l0.length - i) i l a = some (r1, r2))) (fun _ v5 _ => l0.length - (intOf v5).toNat)
  case atStart => exact ⟨0, l0, a1, rfl, rfl, Nat.zero_le _, ⟨HS0.out⟩, ⟨HB0.out⟩, ⟨Kept.refl _ _⟩, ⟨H.out⟩⟩
  case round =>
    obtain ⟨i, l, a, rfl, rfl, hi, HS, HB, HK, HH⟩ := hrel
    by_cases hlt : i < l0.length
    · have hin : (i : Int) < (l0.length : Int) := by omega
      have hh := HH.out
      rw [show l0.length - i = (l0.length - (i + 1)) + 1 by omega, mi] at hh
      obtain ⟨t1, ht1, hh⟩ := Option.bind_eq_some_iff.mp hh
      obtain ⟨t2, ht2, hh⟩ := Option.bind_eq_some_iff.mp hh
      obtain ⟨⟨m1, m2⟩, hm, hh⟩ := Option.bind_eq_some_iff.mp hh
      simp only at hh
      have HT1 := Aside0.mk ht1
      have HT2 := Aside0.mk ht2
      have HM := Aside0.mk hm
      have HN := Aside0.mk hh
      have hll : l0.length = l.length := (Kd.S_reads' HS.out).1
      have HLL := Aside0.mk hll
      clear ht1 ht2 hm hh hll
      obtain ⟨g, cp, hv, hbg, hgl, cells, hgc⟩ := Kd.S_form HS.out (by have := HLL.out; omega)
      injection hv with hA hnn hcp
      clear hnn
      subst hA
      have hokg : ok g := (Kd.S_R HS.out).1 g rfl
      have HG := Aside0.mk (And.intro hbg hokg)
      clear hcp hgl hgc hbg hokg
      go_wp2_with (first
        | (with_reducible (go_at_call 53; refine (laws_markText.calls k a t1 wr HT1.out).mono ?_; rintro e w2 ⟨rfl, hb⟩; obtain ⟨⟨u, x0⟩, x1, x2, x3⟩ := mi_key (Kd.S_below HS.out hb) i hlt t1 rfl; have HS2 := Aside0.mk x2; have HB2 := Aside0.mk hb; clear hb x2 x3))
        | (with_reducible (go_at_call 53; refine (laws_markText.calls k (wrap64 (a + 1)) t2 (w2.setCell ⟨g, i * 3, none⟩ (.string t1)) HT2.out).mono ?_; rintro e w3 ⟨rfl, hb⟩; obtain ⟨⟨u3, y0⟩, y1, y2, y3⟩ := mi_val (Kd.S_below HS2.out hb) hlt t2; obtain ⟨oki, v2, z0, z1, z2, z3⟩ := mi_row y2 hlt; have HB3 := Aside0.mk hb; have HR := Aside0.mk z1; have HO := Aside0.mk z2; have HZ := Aside0.mk z3; have hbb := mi_set (j := i * 3 + 1) (v := .string t2) (mi_below (mi_set (j := i * 3) (v := .string t1) (mi_below HB.out HB2.out) HG.out.1) hb) HG.out.1; have HBB := Aside0.mk hbb; clear hb y2 y3 z1 z2 z3 x0 x1 hbb))
        | (with_reducible (go_at_call 80; refine (laws_markStringS.calls k oki v2 (l.getD i z79).f1 (wrap64 (wrap64 (a + 1) + 1)) m1 m2 w0 (w3.setCell ⟨g, i * 3 + 1, none⟩ (.string t2)) HBB.out HR.out HM.out).mono ?_; rintro e w4 ⟨rfl, hr, hb, hk⟩; have HS4 := Aside0.mk (HZ.out w4 m2 hr hk); have HB4 := Aside0.mk hb; have HK4 := Aside0.mk hk; clear hr hb hk)))
      have hkk : Kept w w4 ok := Kept.then_ (mi_kset (j := i * 3 + 1) (v := .string t2) (Kept.below (mi_kset (j := i * 3) (v := .string t1) (Kept.below HK.out HB2.out) HG.out.2) HB3.out) HG.out.2) HK4.out (fun k hk => .inl (HO.out k hk).1)
      have hw : (i : Int) + 1 = ((i + 1 : Nat) : Int) := by omega
      go_roundw
      case rel => exact ⟨i + 1, _, m1, rfl, congrArg _ hw, by omega, HS4, HB4, ⟨hkk⟩, ⟨HN.out⟩⟩
      case measure => simp [intOf]; omega
    · have hin : ¬ (i : Int) < (l0.length : Int) := by omega
      have hh := HH.out
      rw [show l0.length - i = 0 by omega, mi] at hh
      simp only [Option.some.injEq, Prod.mk.injEq] at hh
      obtain ⟨rfl, rfl⟩ := hh
      go_wp2
      go_ret
      exact ⟨rfl, HS.out, HB.out, HK.out⟩
def laws_markProof.f (k : Nat) (a0 : Int) (a1 : Int) (l2 : List S79) (a : Int) : Option (Int × List S79) := mi_all k l2 a
theorem laws_markProof.len {k : Nat} {a0 a1 : Int} {l2 : List S79} {a : Int} {r : Int × List S79} (h : laws_markProof.f k a0 a1 l2 a = some r) : r.2.length = l2.length := by
  unfold laws_markProof.f mi_all at h
  split at h
  · exact mi_len k _ _ _ _ _ h
  · cases h
set_option maxHeartbeats 8000000 in
set_option maxRecDepth 100000 in
/-- The proof's items are marked: its rows alone are turned. -/
theorem laws_markProof.callsS (k : Nat) (a0 a1 : Int) (A : Option Addr) (cap n : Nat) (l2 : List S79) (a : Int) (r1 : Int) (r2 : List S79) (ok : Nat → Prop) (w0 w : World) (hB : Below w0.heap.size w0 w) (ho : Kd.S k79 79 w w0.heap.size ok (.slice A n cap) l2) (h : laws_markProof.f k a0 a1 l2 a = some (r1, r2)) :
    Calls Try.prog 25 #[.agg #[.int .i64 a0, .int .i64 a1, .slice A n cap], .int .i64 a] w fun e w' => e = .returned (.int .i64 r1) ∧ Kd.S k79 79 w' w0.heap.size ok (.slice A n cap) r2 ∧ Below w0.heap.size w0 w' ∧ Kept w w' ok := by
  obtain rfl : n = l2.length := (Kd.S_reads' ho).1
  unfold laws_markProof.f at h
  have HS0 := Aside0.mk ho
  have HB0 := Aside0.mk hB
  have H := Aside0.mk h
  clear h ho hB
  go_enter Try.func25, Try.ntmps25
  go_wp2_with (with_reducible (go_at_call 54; refine (mi_calls k A cap l2 a r1 r2 ok w0 (w.alloc (.cells #[.int .i64 a0, .int .i64 a1, .slice A l2.length cap] 44)) (mi_below HB0.out (below_alloc (Below.refl _ _) _)) (Kd.S_alloc HS0.out _) H.out).mono ?_; rintro e w2 ⟨rfl, hs, hb, hk⟩; have HS2 := Aside0.mk hs; have HB2 := Aside0.mk hb; have HK2 := Aside0.mk hk; clear hs hb hk))
  go_ret
  exact ⟨rfl, HS2.out, HB2.out, Kept.then_ (Kept.alloc (Kept.refl _ _) _) HK2.out (fun _ hk => .inl hk)⟩
theorem mi_newB {α : Type} {d : Kd α} {e b : Nat} {w1 : World} {ok : Nat → Prop} {v : Value} {xs : List α} (h : Kd.S d e w1 b ok v xs) : ∃ B, B = b ∧ Kd.S d e w1 b (fun k => ok k ∧ B ≤ k) v xs := ⟨b, rfl, Kd.S_mono (Kd.S_bound h) (fun _ hk => ⟨hk.1, hk.2.1⟩)⟩
theorem mi_elderB {α : Type} {d : Kd α} {e base B : Nat} {W w1 : World} {ok : Nat → Prop} {u : Value} {xs : List α} (h : Kd.S d e W base ok u xs) (hb : Below W.heap.size W w1) (hB : B = W.heap.size) : Kd.S d e w1 base (fun k => ok k ∧ k < B) u xs := Kd.S_below (Kd.S_mono (Kd.S_bound h) (fun _ hk => ⟨hk.1, by rw [hB]; exact hk.2.2.1⟩)) hb
theorem mi_apart {w : World} {k : Nat} {L M : List Nat} (h : ∃ q, q ∈ L ∧ ∃ cells, w.heap[k]? = some (.cells cells q (0, 0))) (h2 : ∃ q, q ∈ M ∧ ∃ cells, w.heap[k]? = some (.cells cells q (0, 0))) (hd : ∀ q, q ∈ L → q ∉ M) : False := by
  obtain ⟨q, hq, c, hc⟩ := h
  obtain ⟨q2, hq2, c2, hc2⟩ := h2
  rw [hc] at hc2
  injection hc2 with hc2
  injection hc2 with _ hq3
  exact hd q hq (hq3 ▸ hq2)


/-! ###  laws_heldStringS: function 81 -/
def laws_heldStringS.l0 : Nat → List ByteArray → Int → Int → Option (Int)
  | 0, _, _, _ => none
  | k + 1, x0, x1, x5 => if x5 < (x0.length : Int) then (if 0 ≤ x5 then ((laws_markText.f k x1).bind fun t487 => (if (rdOf ByteArray.empty x0 x5).toList = t487.toList then (laws_heldStringS.l0 k x0 (wrap64 (x1 + 1)) (wrap64 (x5 + 1))) else (some (-1)))) else (none)) else (some x1)
def laws_heldStringS.f (k : Nat) (l0 : List ByteArray) (a1 : Int) : Option (Int) := laws_heldStringS.l0 k l0 a1 0
set_option maxHeartbeats 8000000 in
set_option maxRecDepth 100000 in
theorem laws_heldStringS.calls (k : Nat) (A0 : Option Addr) (c0 : Nat) (l0 : List ByteArray) (a1 : Int) (r : Int) (w : World) (hr0 : Kd.C Kd.string w A0 l0.length l0) (hc0 : l0.length ≤ c0) (h : laws_heldStringS.f k l0 a1 = some r) :
  Calls Try.prog 81 #[.slice A0 l0.length c0, .int .i64 a1] w fun e w' => e = .returned (.int .i64 r) ∧ Below w.heap.size w w' := by
  have HR0 := Aside0.mk hr0
  have HC0 := Aside0.mk hc0
  clear hr0 hc0
  have HB := Aside0.mk (Below.refl w.heap.size w)
  have H : (laws_heldStringS.l0 k l0 a1 0) = some r := h
  clear h
  have H' := Aside0.mk H
  clear H
  go_enter Try.func81, Try.ntmps81
  go_wp2
  go_loopg [1, 5] k (fun kq v1 v5 w' => ∃ (x1_1 : Int) (x5_1 : Int), v1 = .int .i64 x1_1 ∧ v5 = .int .i64 x5_1 ∧ Aside0 (laws_heldStringS.l0 kq l0 x1_1 x5_1 = some r) ∧ Aside0 (kq ≤ k) ∧ Aside0 (Below w.heap.size w w'))
  case atStart => exact ⟨(a1), (0), (by first | rfl | (simp; done) | (simp [*]; done)), (by first | rfl | (simp; done) | (simp [*]; done)), H', ⟨Nat.le_refl _⟩, ⟨be_ HB.out⟩⟩
  case round =>
   clear H'
   try clear p2
   obtain ⟨x1_1, x5_1, rfl, rfl, HA, HK1, HB⟩ := hrel
   cases gk with
   | zero => exact absurd HA.out (by simp [laws_heldStringS.l0])
   | succ k1 =>
    have H := HA.out
    clear HA
    simp only [laws_heldStringS.l0] at H
    by_cases c3 : x5_1 < (l0.length : Int)
    · rw [if_pos c3] at H
      have c3b0 : decide (x5_1 < (l0.length : Int)) = true := decide_eq_true c3
      clear c3
      by_cases c4 : 0 ≤ x5_1
      rotate_left
      · rw [if_neg c4] at H; exact absurd H (by simp)
      rw [if_pos c4] at H
      have c4b0 : decide (0 ≤ x5_1) = true := decide_eq_true c4
      clear c4
      replace H := Option.bind_eq_some_iff.mp H
      obtain ⟨t487, A50, H⟩ := H
      have A5 := Aside0.mk A50
      clear A50
      by_cases c6 : (rdOf ByteArray.empty l0 x5_1).toList = t487.toList
      · rw [if_pos c6] at H
        have c6b0 : ((rdOf ByteArray.empty l0 x5_1).toList == t487.toList) = true := beq_iff_eq.mpr c6
        have c6b1 : ((rdOf ByteArray.empty l0 x5_1).toList != t487.toList) = false := bne_eq_false_iff_eq.mpr c6
        clear c6
        have H' := Aside0.mk H
        clear H
        try go_wp2
        have n0_ := Aside0.mk (below_drew1 HB.out)
        clear HB
        have HB := n0_
        clear n0_
        have p486 : 0 ≤ (x5_1 : Int) := of_decide_eq_true (by first | (with_reducible assumption) | assumption)
        have q486 : x5_1 < (l0.length : Int) := of_decide_eq_true (by first | (with_reducible assumption) | assumption)
        obtain ⟨ad486, e486, hx486_0⟩ := Kd.at_string HR0.out x5_1 p486 q486
        have hw486_0 := hx486_0
        cases e486
        replace hx486_0 := (HB.out.cell (World.block_lt_of_cell? w _ hx486_0)).trans hx486_0
        replace p486 := eq_true p486
        replace q486 := eq_true q486
        refine start_ (n := 7) (S := fun w' => w'.cell? (ad486.add (x5_1).toNat) = some (.string (rdOf ByteArray.empty l0 x5_1))) (ds := []) (bq_ 0 7) (by kernel_rfl) rfl rfl (((HB.out.cell (World.block_lt_of_cell? w _ hw486_0)).trans hw486_0)) (fun hHeld => ?_)
        generalize wr.drew = w7 at HB hx486_0 hHeld ⊢
        refine pure_ (i := 0) (N := some 12) (v := ?_) (a' := ?_) (bq_ 1 6) rfl rfl (by kernel_rfl) (fun _ _ _ h => h) (Or.inl ⟨by rfl, ?_⟩) ?_ ?_
        rotate_left
        · intro w'; go_simp; with_reducible rfl
        rotate_left
        · simp only [Act.put, sa_, sz_, ss_, i64_w, i32_w]; rfl
        refine pure_ (i := 1) (N := some 13) (v := ?_) (a' := ?_) (bq_ 2 5) rfl rfl (by kernel_rfl) (fun _ _ _ h => h) (Or.inl ⟨by rfl, ?_⟩) ?_ ?_
        rotate_left
        · intro w'; go_simp; with_reducible rfl
        rotate_left
        · simp only [Act.put, sa_, sz_, ss_, i64_w, i32_w]; rfl
        refine pure_ (i := 2) (N := some 14) (v := ?_) (a' := ?_) (bq_ 3 4) rfl rfl (by kernel_rfl) (fun _ _ _ h => h) (Or.inl ⟨by rfl, ?_⟩) ?_ ?_
        rotate_left
        · intro w'; go_simp; with_reducible rfl
        rotate_left
        · simp only [Act.put, sa_, sz_, ss_, i64_w, i32_w]; rfl
        refine pure_ (i := 4) (N := some 16) (v := ?_) (a' := ?_) #[true, true, true, false, true, false, false] rfl rfl (by kernel_rfl) (fun _ _ _ h => h) (Or.inl ⟨by rfl, ?_⟩) ?_ ?_
        rotate_left
        · intro w'; go_simp; with_reducible rfl
        rotate_left
        · simp only [Act.put, sa_, sz_, ss_, i64_w, i32_w]; rfl
        refine take_ (i := 3) (N := some 15) (v := ?_) (a' := ?_) (bq_ 5 2) rfl rfl (by kernel_rfl) (fun _ _ _ h => h) (Or.inl ⟨by rfl, ?_⟩) hHeld ?_ ?_
        rotate_left
        · intro w' s0
          go_simp
          with_reducible rfl
        rotate_left
        · simp only [Act.put, sa_, sz_, ss_, i64_w, i32_w]; rfl
        refine one_ (i := 5) (N := some 17) (bq_ 6 1) rfl rfl (by kernel_rfl) (by decide) (fun K hK => ?_)
        refine goes_ Try.func53 (by kernel_rfl) rfl #[.int .i64 x1_1] (by rfl) rfl rfl al_ ?_
        with_reducible refine (laws_markText.calls k1 x1_1 t487 _ A5.out).mono ?_
        rintro e w8 ⟨rfl, hb⟩
        refine ⟨_, rfl, ?_⟩
        have n0_ := Aside0.mk (below_step (be_ HB.out) hb)
        clear HB
        have HB := n0_
        clear n0_
        (try clear hb)
        (try clear hb2)
        (try clear hk)
        (try clear hi)
        refine hK.out _ _ (((HB.out.cell (World.block_lt_of_cell? w _ hw486_0)).trans hw486_0)) (fun hHeld => ?_)
        clear hK K
        refine nm_ ?_
        refine pure_ (i := 6) (N := some 18) (v := ?_) (a' := ?_) (bq_ 7 0) rfl rfl (by kernel_rfl) (fun _ _ _ h => h) (Or.inl ⟨by rfl, ?_⟩) ?_ ?_
        rotate_left
        · intro w'; go_simp; with_reducible rfl
        rotate_left
        · simp only [Act.put, sa_, sz_, ss_, i64_w, i32_w]; rfl
        refine done_ (by kernel_rfl) ?_
        try go_wp2
        go_roundg k1
        case measure => have := HK1.out; omega
        case rel => exact ⟨(wrap64 (x1_1 + 1)), (wrap64 (x5_1 + 1)), (by first | rfl | (simp; done) | (simp [*]; done)), (by first | rfl | (simp; done) | (simp [*]; done)), H', ⟨by have := HK1.out; omega⟩, ⟨be_ HB.out⟩⟩
      · rw [if_neg c6] at H
        have c6b0 : ((rdOf ByteArray.empty l0 x5_1).toList == t487.toList) = false := beq_eq_false_iff_ne.mpr c6
        have c6b1 : ((rdOf ByteArray.empty l0 x5_1).toList != t487.toList) = true := bne_iff_ne.mpr c6
        obtain rfl := Option.some.inj H
        try go_wp2
        have n0_ := Aside0.mk (below_drew1 HB.out)
        clear HB
        have HB := n0_
        clear n0_
        have p486 : 0 ≤ (x5_1 : Int) := of_decide_eq_true (by first | (with_reducible assumption) | assumption)
        have q486 : x5_1 < (l0.length : Int) := of_decide_eq_true (by first | (with_reducible assumption) | assumption)
        obtain ⟨ad486, e486, hx486_0⟩ := Kd.at_string HR0.out x5_1 p486 q486
        have hw486_0 := hx486_0
        cases e486
        replace hx486_0 := (HB.out.cell (World.block_lt_of_cell? w _ hx486_0)).trans hx486_0
        replace p486 := eq_true p486
        replace q486 := eq_true q486
        refine start_ (n := 7) (S := fun w' => w'.cell? (ad486.add (x5_1).toNat) = some (.string (rdOf ByteArray.empty l0 x5_1))) (ds := []) (bq_ 0 7) (by kernel_rfl) rfl rfl (((HB.out.cell (World.block_lt_of_cell? w _ hw486_0)).trans hw486_0)) (fun hHeld => ?_)
        generalize wr.drew = w9 at HB hx486_0 hHeld ⊢
        refine pure_ (i := 0) (N := some 12) (v := ?_) (a' := ?_) (bq_ 1 6) rfl rfl (by kernel_rfl) (fun _ _ _ h => h) (Or.inl ⟨by rfl, ?_⟩) ?_ ?_
        rotate_left
        · intro w'; go_simp; with_reducible rfl
        rotate_left
        · simp only [Act.put, sa_, sz_, ss_, i64_w, i32_w]; rfl
        refine pure_ (i := 1) (N := some 13) (v := ?_) (a' := ?_) (bq_ 2 5) rfl rfl (by kernel_rfl) (fun _ _ _ h => h) (Or.inl ⟨by rfl, ?_⟩) ?_ ?_
        rotate_left
        · intro w'; go_simp; with_reducible rfl
        rotate_left
        · simp only [Act.put, sa_, sz_, ss_, i64_w, i32_w]; rfl
        refine pure_ (i := 2) (N := some 14) (v := ?_) (a' := ?_) (bq_ 3 4) rfl rfl (by kernel_rfl) (fun _ _ _ h => h) (Or.inl ⟨by rfl, ?_⟩) ?_ ?_
        rotate_left
        · intro w'; go_simp; with_reducible rfl
        rotate_left
        · simp only [Act.put, sa_, sz_, ss_, i64_w, i32_w]; rfl
        refine pure_ (i := 4) (N := some 16) (v := ?_) (a' := ?_) #[true, true, true, false, true, false, false] rfl rfl (by kernel_rfl) (fun _ _ _ h => h) (Or.inl ⟨by rfl, ?_⟩) ?_ ?_
        rotate_left
        · intro w'; go_simp; with_reducible rfl
        rotate_left
        · simp only [Act.put, sa_, sz_, ss_, i64_w, i32_w]; rfl
        refine take_ (i := 3) (N := some 15) (v := ?_) (a' := ?_) (bq_ 5 2) rfl rfl (by kernel_rfl) (fun _ _ _ h => h) (Or.inl ⟨by rfl, ?_⟩) hHeld ?_ ?_
        rotate_left
        · intro w' s0
          go_simp
          with_reducible rfl
        rotate_left
        · simp only [Act.put, sa_, sz_, ss_, i64_w, i32_w]; rfl
        refine one_ (i := 5) (N := some 17) (bq_ 6 1) rfl rfl (by kernel_rfl) (by decide) (fun K hK => ?_)
        refine goes_ Try.func53 (by kernel_rfl) rfl #[.int .i64 x1_1] (by rfl) rfl rfl al_ ?_
        with_reducible refine (laws_markText.calls k1 x1_1 t487 _ A5.out).mono ?_
        rintro e w10 ⟨rfl, hb⟩
        refine ⟨_, rfl, ?_⟩
        have n0_ := Aside0.mk (below_step (be_ HB.out) hb)
        clear HB
        have HB := n0_
        clear n0_
        (try clear hb)
        (try clear hb2)
        (try clear hk)
        (try clear hi)
        refine hK.out _ _ (((HB.out.cell (World.block_lt_of_cell? w _ hw486_0)).trans hw486_0)) (fun hHeld => ?_)
        clear hK K
        refine nm_ ?_
        refine pure_ (i := 6) (N := some 18) (v := ?_) (a' := ?_) (bq_ 7 0) rfl rfl (by kernel_rfl) (fun _ _ _ h => h) (Or.inl ⟨by rfl, ?_⟩) ?_ ?_
        rotate_left
        · intro w'; go_simp; with_reducible rfl
        rotate_left
        · simp only [Act.put, sa_, sz_, ss_, i64_w, i32_w]; rfl
        refine done_ (by kernel_rfl) ?_
        try go_wp2
        go_ret
        exact ⟨by first | rfl | (simp [errW_none, errW_some] <;> rfl) | (simp [*, errW_none, errW_some] <;> rfl), be_ HB.out⟩
    · rw [if_neg c3] at H
      have c3b0 : decide (x5_1 < (l0.length : Int)) = false := decide_eq_false c3
      clear c3
      obtain rfl := Option.some.inj H
      go_wp2
      go_ret
      exact ⟨by first | rfl | (simp [errW_none, errW_some] <;> rfl) | (simp [*, errW_none, errW_some] <;> rfl), be_ HB.out⟩

end Go.Proofs.Ytbelaenekbflfaa.P
