-- Written by wip/xp/xp.py over the kit's print; Lean checks it.
import Derived.Test.YtgaalomhipfgjaaStr
import Derived.Test.YtgaalomhipfgjaaPx0
import Derived.Test.YtgaalomhipfgjaaPx9
namespace Go.Proofs.Ytgaalomhipfgjaa.P
open Go.RowKit Go.Proofs.YtgaalomhipfgjaaW.PrintWords Go.Proofs.YtgaalomhipfgjaaW.PrintLast Go.Proofs.YtgaalomhipfgjaaW.PrintMore
attribute [local go_sem] max2_int min2_int max_two min_two max_three min_three max_four min_four   -- for this text's walks alone
set_option linter.unusedVariables false
set_option linter.unusedSimpArgs false

/-! ###  impl_itemsOk: function 75 -/
def impl_itemsOk.l0 : Nat → ByteArray → List (S63) → Int → Int → Int → Int → List (S63) → Option (Bool)
  | 0, _, _, _, _, _, _, _ => none
  | k + 1, x0, x8, x9, x10, x569000, x569001, x569002 => if x10 < x9 then (if 0 ≤ x10 then (if x10 < (x8.length : Int) then ((impl_PairOk.f k ((rd_T63 x8 x10).f0.f0) ((rd_T63 x8 x10).f0.f1)).bind fun t571 => (if t571 = true then (if x10 > 0 then (if 0 ≤ (wrap64 (x10 - 1)) then (if (wrap64 (x10 - 1)) < (x569002.length : Int) then (if ((Op.bytesLess (((rd_T63 x569002 (wrap64 (x10 - 1))).f0.f0).toList) (((rd_T63 x8 x10).f0.f0).toList)) = true) then ((impl_CheckPath.f k ((rd_T63 x8 x10).f0.f0) ((rd_T63 x8 x10).f0.f1) (wrap64 (x569001 + x10)) x569000 ((rd_T63 x8 x10).f1) x0).bind fun t573 => (if t573 = true then (impl_itemsOk.l0 k x0 x8 x9 (wrap64 (x10 + 1)) x569000 x569001 x569002) else (some false))) else (some false)) else (none)) else (none)) else ((impl_CheckPath.f k ((rd_T63 x8 x10).f0.f0) ((rd_T63 x8 x10).f0.f1) (wrap64 (x569001 + x10)) x569000 ((rd_T63 x8 x10).f1) x0).bind fun t574 => (if t574 = true then (impl_itemsOk.l0 k x0 x8 x9 (wrap64 (x10 + 1)) x569000 x569001 x569002) else (some false)))) else (some false))) else (none)) else (none)) else (some true)
def impl_itemsOk.f (k : Nat) (a0 : ByteArray) (a1_0 : Int) (a1_1 : Int) (l1_2 : List (S63)) : Option (Bool) := impl_itemsOk.l0 k a0 l1_2 (l1_2.length : Int) 0 a1_0 a1_1 l1_2
def impl_itemsOk.T4 : Bool × List (List Nat × List Nat) := (true, [([], []), ([0], [0]), ([1], [1]), ([2], [2]), ([3, 2], [3]), ([4], [4]), ([5, 4], [4, 5]), ([6, 4, 4], [4, 6]), ([7], [7]), ([8, 7], [7, 8]), ([9, 7], [7, 9]), ([7], [7]), ([11, 7], [7, 11]), ([7], [7]), ([13, 7], [7, 13]), ([12, 14, 7], [7, 12, 14]), ([15, 7], [7, 15]), ([16, 7], [7, 16]), ([17, 7], [7, 17]), ([10, 18, 7], [7, 10, 18]), ([7, 19, 4], [4, 7, 19]), ([4, 20], [4, 20]), ([21, 7], [21]), ([22], [22]), ([23, 22], [22, 23]), ([22], [22]), ([25, 22], [22, 25]), ([22], [22]), ([26, 27, 22], [22, 26, 27]), ([22], [22]), ([29, 22], [22, 29]), ([22], [22]), ([31, 22], [22, 31]), ([22], [22]), ([24, 28, 30, 32, 33, 22, 22], [22, 24, 28, 30, 32, 33]), ([34, 22], [22, 34]), ([22, 35], [22, 35])])
def impl_itemsOk.B4 : List Nat := [0, 1, 3, 7, 15, 31, 63, 127, 255, 511, 1023, 255, 2303, 255, 8447, 30975, 63743, 129279, 260351, 524287, 1048575, 2097151, 4194303, 8388607, 16777215, 8388607, 41943039, 8388607, 243269631, 8388607, 545259519, 8388607, 2155872255, 8388607, 17179869183, 34359738367, 68719476735]
theorem impl_itemsOk.tab4 : rtab .any (opsOf Try.f75 4) = impl_itemsOk.T4 := by kernel_rfl
theorem impl_itemsOk.bits4 : waitsOk impl_itemsOk.T4.2 impl_itemsOk.B4 = true := by kernel_rfl
set_option maxHeartbeats 8000000 in
set_option maxRecDepth 100000 in
theorem impl_itemsOk.calls (k : Nat) (a0 : ByteArray) (a1_0 : Int) (a1_1 : Int) (A1_2 : Option Addr) (c1_2 : Nat) (l1_2 : List (S63)) (r : Bool) (w : World) (hr1_2 : Kd.C k63 w A1_2 l1_2.length l1_2) (hc1_2 : l1_2.length ≤ c1_2) (h : impl_itemsOk.f k a0 a1_0 a1_1 l1_2 = some r) :
  Calls Try.prog 75 #[.string a0, .agg #[.int .i64 a1_0, .int .i64 a1_1, .slice A1_2 l1_2.length c1_2]] w fun e w' => e = .returned (.bool r) ∧ Below w.heap.size w w' := by
  have hu44 := Try.underlying44
  have hu63 := Try.underlying63
  have hu26 := Try.underlying26
  have HR1_2 := Aside0.mk hr1_2
  have HC1_2 := Aside0.mk hc1_2
  clear hr1_2 hc1_2
  have HB := q_ (Below.refl w.heap.size w)
  have H : (impl_itemsOk.l0 k a0 l1_2 (l1_2.length : Int) 0 a1_0 a1_1 l1_2) = some r := h
  clear h
  have H' := Aside0.mk H
  clear H
  go_enter Try.func75, Try.ntmps75
  go_wp2_with (first | ((with_reducible refine gate_dst (N := 3) rfl ?_); refine box_event rfl (N := 3) rfl (cs := #[.int .i64 a1_0, .int .i64 a1_1, .slice A1_2 l1_2.length c1_2]) (t := 44) hr_ ?_; intro gb568 hg w3 hbox hb; have BK568 := q_ (hbox); have GW568 := q_ ((by rw [hg]; exact (below_size (be_ HB.out)) : w.heap.size ≤ gb568)); have GE568 := q_ ((by rw [hg]; exact (below_size (be_ HB.out)) : w.heap.size ≤ gb568)); replace HB := q_ (below_step (be_ HB.out) hb); clear hb hbox hg; obtain ⟨hcz4_0, hcz4_1, hcz4_2, hfz4_0, hfz4_1, hfz4_2⟩ := bx3_ BK568.out))
  go_loopg [10] k (fun kq v10 w' => ∃ (x10_1 : Int), v10 = .int .i64 x10_1 ∧ Aside0 (impl_itemsOk.l0 kq a0 l1_2 (l1_2.length : Int) x10_1 a1_0 a1_1 l1_2 = some r) ∧ Aside0 (kq ≤ k) ∧ Aside0 (w'.heap[gb568]? = some (.cells #[.int .i64 a1_0, .int .i64 a1_1, (.slice A1_2 l1_2.length c1_2)] 44 (0, 0))) ∧ Aside0 (Below w.heap.size w w'))
  case atStart => exact ⟨(0), rs_, H', ⟨Nat.le_refl _⟩, ⟨by (with_reducible repeat (first | refine blk_drewN ?_ _ | refine blk_drew ?_ | refine blk_alloc ?_ _)); exact BK568.out⟩, ⟨bs_ HB.out GE568.out⟩⟩
  case round =>
   clear H'
   try clear c1
   try clear p2
   try clear hcz4_0
   try clear hcz4_1
   try clear hcz4_2
   try clear hfz4_0
   try clear hfz4_1
   try clear hfz4_2
   obtain ⟨x10_1, rfl, HA, HK1, BK568, HB⟩ := hrel
   cases gk with
   | zero => exact absurd HA.out (by simp [impl_itemsOk.l0])
   | succ k1 =>
    have H := HA.out
    clear HA
    simp only [impl_itemsOk.l0] at H
    by_cases c5 : x10_1 < (l1_2.length : Int)
    · rw [if_pos c5] at H
      have c5b0 : decide (x10_1 < (l1_2.length : Int)) = true := decide_eq_true c5
      clear c5
      by_cases c6 : 0 ≤ x10_1
      rotate_left
      · rw [if_neg c6] at H; exact absurd H (by simp)
      rw [if_pos c6] at H
      have c6b0 : decide (0 ≤ x10_1) = true := decide_eq_true c6
      clear c6
      by_cases c7 : x10_1 < (l1_2.length : Int)
      rotate_left
      · rw [if_neg c7] at H; exact absurd H (by simp)
      rw [if_pos c7] at H
      have c7b0 : decide (x10_1 < (l1_2.length : Int)) = true := decide_eq_true c7
      clear c7
      replace H := Option.bind_eq_some_iff.mp H
      obtain ⟨t571, A80, H⟩ := H
      have A8 := Aside0.mk A80
      clear A80
      by_cases c9 : t571 = true
      rotate_left
      · replace c9 := Bool.eq_false_iff.mpr c9
        subst c9
        rw [if_neg (show ¬ (false = true) by decide)] at H
        obtain rfl := Option.some.inj H
        have p569 : 0 ≤ (x10_1 : Int) := od_
        have q569 : x10_1 < (l1_2.length : Int) := od_
        obtain ⟨ad569, A569_2, c569_2, e569, hx569_0, hx569_1, hx569_2, hl569_2, hi569_2⟩ := at_T63 HR1_2.out x10_1 p569 q569
        cases e569
        replace hx569_0 := (HB.out.cell (World.block_lt_of_cell? w _ hx569_0)).trans hx569_0
        replace hx569_1 := (HB.out.cell (World.block_lt_of_cell? w _ hx569_1)).trans hx569_1
        replace hx569_2 := (HB.out.cell (World.block_lt_of_cell? w _ hx569_2)).trans hx569_2
        have HR569_2 := Aside0.mk hi569_2
        have HC569_2 := Aside0.mk hl569_2
        clear hi569_2 hl569_2
        replace p569 := eq_true p569
        replace q569 := eq_true q569
        try go_wp2_with (first | ((with_reducible refine gate_dst (N := 6) rfl ?_); refine box_event rfl (N := 6) rfl (cs := #[.string (⟨#[]⟩ : ByteArray), .string (⟨#[]⟩ : ByteArray), .slice none 0 0]) (t := 63) hr_ ?_; intro gb570 hg w53 hbox hb; have BK570 := q_ (hbox); have GW570 := q_ ((by rw [hg]; exact (below_size (bs_ HB.out GE568.out)) : w.heap.size ≤ gb570)); have GE570 := q_ ((by rw [hg]; exact (below_size (bs_ HB.out GE568.out)) : w.heap.size ≤ gb570)); replace HB := q_ (below_step (bs_ HB.out GE568.out) hb); have NB568_570 := q_ ((by rw [hg]; exact Nat.ne_of_lt (blk_lt (g := gb568) (o := .cells #[.int .i64 a1_0, .int .i64 a1_1, .slice (some ad569) l1_2.length c1_2] 44 (0, 0)) (bk_ BK568.out)) : gb568 ≠ gb570)); have NB570_568 := q_ ((by rw [hg]; exact Nat.ne_of_gt (blk_lt (g := gb568) (o := .cells #[.int .i64 a1_0, .int .i64 a1_1, .slice (some ad569) l1_2.length c1_2] 44 (0, 0)) (bk_ BK568.out)) : gb570 ≠ gb568)); replace BK568 := q_ (bb_ BK568.out hb); clear hb hbox hg; have hnb54 := NB570_568.out; have hnc54 := NB568_570.out; obtain ⟨hcz55_0, hcz55_1, hcz55_2, hfz55_0, hfz55_1, hfz55_2⟩ := bx3_ BK570.out))
        have n0_ : Aside0 ((((w53.setCell ⟨gb570, 0, none⟩ (.string ((rd_T63 l1_2 x10_1).f0.f0))).setCell ⟨gb570, 1, none⟩ (.string ((rd_T63 l1_2 x10_1).f0.f1))).setCell ⟨gb570, 2, none⟩ (.slice A569_2 ((rd_T63 l1_2 x10_1).f1).length c569_2)).heap[gb568]? = some (.cells #[.int .i64 a1_0, .int .i64 a1_1, .slice (some ad569) l1_2.length c1_2] 44 (0, 0))) := ⟨by (with_reducible repeat (first | refine blk_drewN ?_ _ | refine blk_drew ?_ | refine blk_alloc ?_ _)); refine blk_far ?_ NB568_570.out _; (with_reducible repeat (first | refine blk_drewN ?_ _ | refine blk_drew ?_ | refine blk_alloc ?_ _)); refine blk_far ?_ NB568_570.out _; (with_reducible repeat (first | refine blk_drewN ?_ _ | refine blk_drew ?_ | refine blk_alloc ?_ _)); refine blk_far ?_ NB568_570.out _; (with_reducible repeat (first | refine blk_drewN ?_ _ | refine blk_drew ?_ | refine blk_alloc ?_ _)); exact BK568.out⟩
        have n1_ : Aside0 ((((w53.setCell ⟨gb570, 0, none⟩ (.string ((rd_T63 l1_2 x10_1).f0.f0))).setCell ⟨gb570, 1, none⟩ (.string ((rd_T63 l1_2 x10_1).f0.f1))).setCell ⟨gb570, 2, none⟩ (.slice A569_2 ((rd_T63 l1_2 x10_1).f1).length c569_2)).heap[gb570]? = some (.cells #[.string ((rd_T63 l1_2 x10_1).f0.f0), .string ((rd_T63 l1_2 x10_1).f0.f1), .slice A569_2 ((rd_T63 l1_2 x10_1).f1).length c569_2] 63 (0, 0))) := ⟨by (with_reducible repeat (first | refine blk_drewN ?_ _ | refine blk_drew ?_ | refine blk_alloc ?_ _)); refine blk_put (cs := #[.string ((rd_T63 l1_2 x10_1).f0.f0), .string ((rd_T63 l1_2 x10_1).f0.f1), .slice none 0 0]) ?_ 2 _ rfl; (with_reducible repeat (first | refine blk_drewN ?_ _ | refine blk_drew ?_ | refine blk_alloc ?_ _)); refine blk_put (cs := #[.string ((rd_T63 l1_2 x10_1).f0.f0), .string (⟨#[]⟩ : ByteArray), .slice none 0 0]) ?_ 1 _ rfl; (with_reducible repeat (first | refine blk_drewN ?_ _ | refine blk_drew ?_ | refine blk_alloc ?_ _)); refine blk_put (cs := #[.string (⟨#[]⟩ : ByteArray), .string (⟨#[]⟩ : ByteArray), .slice none 0 0]) ?_ 0 _ rfl; (with_reducible repeat (first | refine blk_drewN ?_ _ | refine blk_drew ?_ | refine blk_alloc ?_ _)); exact BK570.out⟩
        have n2_ : Aside0 (Below w.heap.size w (((w53.setCell ⟨gb570, 0, none⟩ (.string ((rd_T63 l1_2 x10_1).f0.f0))).setCell ⟨gb570, 1, none⟩ (.string ((rd_T63 l1_2 x10_1).f0.f1))).setCell ⟨gb570, 2, none⟩ (.slice A569_2 ((rd_T63 l1_2 x10_1).f1).length c569_2))) := ⟨b2_ HB.out GE568.out GE570.out⟩
        (try clear BK568)
        (try clear BK570)
        (try clear HB)
        generalize (((w53.setCell ⟨gb570, 0, none⟩ (.string ((rd_T63 l1_2 x10_1).f0.f0))).setCell ⟨gb570, 1, none⟩ (.string ((rd_T63 l1_2 x10_1).f0.f1))).setCell ⟨gb570, 2, none⟩ (.slice A569_2 ((rd_T63 l1_2 x10_1).f1).length c569_2)) = w56 at n0_ n1_ n2_ ⊢
        have BK568 := n0_
        have BK570 := n1_
        have HB := n2_
        clear n0_ n1_ n2_
        replace BK568 := q_ (blk_drew BK568.out)
        replace BK570 := q_ (blk_drew BK570.out)
        replace HB := q_ (below_drew1 HB.out)
        refine start_ (n := 37) (S := fun w' => w'.cell? ⟨gb570, 0, none⟩ = some (.string ((rd_T63 l1_2 x10_1).f0.f0)) ∧ w'.cell? ⟨gb570, 1, none⟩ = some (.string ((rd_T63 l1_2 x10_1).f0.f1)) ∧ w'.cell? ⟨gb570, 2, none⟩ = some (.slice A569_2 ((rd_T63 l1_2 x10_1).f1).length c569_2)) (ds := []) (bq_ 0 37) (by kernel_rfl) rfl rfl ⟨(blk_cell BK570.out 0).trans rfl, (blk_cell BK570.out 1).trans rfl, (blk_cell BK570.out 2).trans rfl⟩ (fun hHeld => ?_); refine with_tabW impl_itemsOk.tab4 impl_itemsOk.bits4 (fun HT_ HW_ => ?_)
        generalize w56.drew = w57 at BK568 BK570 HB hHeld ⊢
        refine pu_ 0 (some 15) (bq_ 1 36) HT_ ?_
        refine take_ (i := 1) (N := some 16) (v := ?_) (a' := ?_) (bq_ 2 35) rfl rfl (take_ofW HT_.out HW_.out (by kernel_rfl)) (fun _ _ _ h => h) (Or.inl ⟨by rfl, ?_⟩) hHeld ?_ ?_
        rotate_left
        · rintro w' ⟨s0, s1, s2⟩
          go_simp
          with_reducible rfl
        rotate_left
        · simp only [Act.put, sa_, sz_, ss_, i64_w, i32_w]; rfl
        refine on_ 2 (some 17) (bq_ 3 34) HT_ (fun K hK => ?_)
        refine goes_ Try.func98 (by kernel_rfl) rfl #[.agg #[.string ((rd_T63 l1_2 x10_1).f0.f0), .string ((rd_T63 l1_2 x10_1).f0.f1)]] (by rfl) rfl rfl al_ ?_
        with_reducible refine (impl_PairOk.calls k1 ((rd_T63 l1_2 x10_1).f0.f0) ((rd_T63 l1_2 x10_1).f0.f1) false _ A8.out).mono ?_
        rintro e w58 ⟨rfl, hb⟩
        refine ⟨_, rfl, ?_⟩
        replace BK568 := q_ (bb_ BK568.out hb)
        replace BK570 := q_ (bb_ BK570.out hb)
        replace HB := q_ (below_step (b2_ HB.out GE568.out GE570.out) hb)
        (try clear hb)
        (try clear hb2)
        (try clear hk)
        (try clear hi)
        refine hK.out _ _ ⟨(blk_cell BK570.out 0).trans rfl, (blk_cell BK570.out 1).trans rfl, (blk_cell BK570.out 2).trans rfl⟩ (fun hHeld => ?_)
        clear hK K
        refine nm_ ?_
        refine pu_ 3 (some 18) (bq_ 4 33) HT_ ?_
        refine pu_ 4 (some 19) (bq_ 5 32) HT_ ?_
        refine pure_ (i := 5) (N := some 20) (v := undef) (a' := ?_) (bq_ 6 31) rfl rfl (any_of HT_.out (by kernel_rfl)) (fun _ _ _ h => h) (Or.inr ⟨by rfl, rfl⟩) ?_ ?_
        rotate_left
        · simp only [Act.put, sa_, sz_, ss_, i64_w, i32_w]; rfl
        refine pure_ (i := 6) (N := some 21) (v := undef) (a' := ?_) (bq_ 7 30) rfl rfl (any_of HT_.out (by kernel_rfl)) (fun _ _ _ h => h) (Or.inr ⟨by rfl, rfl⟩) ?_ ?_
        rotate_left
        · simp only [Act.put, sa_, sz_, ss_, i64_w, i32_w]; rfl
        refine pure_ (i := 7) (N := some 22) (v := undef) (a' := ?_) (bq_ 8 29) rfl rfl (any_of HT_.out (by kernel_rfl)) (fun _ _ _ h => h) (Or.inr ⟨by rfl, rfl⟩) ?_ ?_
        rotate_left
        · simp only [Act.put, sa_, sz_, ss_, i64_w, i32_w]; rfl
        refine pure_ (i := 8) (N := some 23) (v := undef) (a' := ?_) (bq_ 9 28) rfl rfl (any_of HT_.out (by kernel_rfl)) (fun _ _ _ h => h) (Or.inr ⟨by rfl, rfl⟩) ?_ ?_
        rotate_left
        · simp only [Act.put, sa_, sz_, ss_, i64_w, i32_w]; rfl
        refine pure_ (i := 9) (N := some 24) (v := undef) (a' := ?_) (bq_ 10 27) rfl rfl (any_of HT_.out (by kernel_rfl)) (fun _ _ _ h => h) (Or.inr ⟨by rfl, rfl⟩) ?_ ?_
        rotate_left
        · simp only [Act.put, sa_, sz_, ss_, i64_w, i32_w]; rfl
        refine pure_ (i := 10) (N := some 25) (v := undef) (a' := ?_) (bq_ 11 26) rfl rfl (any_of HT_.out (by kernel_rfl)) (fun _ _ _ h => h) (Or.inr ⟨by rfl, rfl⟩) ?_ ?_
        rotate_left
        · simp only [Act.put, sa_, sz_, ss_, i64_w, i32_w]; rfl
        refine pure_ (i := 11) (N := some 26) (v := undef) (a' := ?_) (bq_ 12 25) rfl rfl (any_of HT_.out (by kernel_rfl)) (fun _ _ _ h => h) (Or.inr ⟨by rfl, rfl⟩) ?_ ?_
        rotate_left
        · simp only [Act.put, sa_, sz_, ss_, i64_w, i32_w]; rfl
        refine pure_ (i := 12) (N := some 27) (v := undef) (a' := ?_) (bq_ 13 24) rfl rfl (any_of HT_.out (by kernel_rfl)) (fun _ _ _ h => h) (Or.inr ⟨by rfl, rfl⟩) ?_ ?_
        rotate_left
        · simp only [Act.put, sa_, sz_, ss_, i64_w, i32_w]; rfl
        refine pure_ (i := 13) (N := some 28) (v := undef) (a' := ?_) (bq_ 14 23) rfl rfl (any_of HT_.out (by kernel_rfl)) (fun _ _ _ h => h) (Or.inr ⟨by rfl, rfl⟩) ?_ ?_
        rotate_left
        · simp only [Act.put, sa_, sz_, ss_, i64_w, i32_w]; rfl
        refine pure_ (i := 14) (N := some 29) (v := undef) (a' := ?_) (bq_ 15 22) rfl rfl (any_of HT_.out (by kernel_rfl)) (fun _ _ _ h => h) (Or.inr ⟨by rfl, rfl⟩) ?_ ?_
        rotate_left
        · simp only [Act.put, sa_, sz_, ss_, i64_w, i32_w]; rfl
        refine pure_ (i := 15) (N := some 30) (v := undef) (a' := ?_) (bq_ 16 21) rfl rfl (any_of HT_.out (by kernel_rfl)) (fun _ _ _ h => h) (Or.inr ⟨by rfl, rfl⟩) ?_ ?_
        rotate_left
        · simp only [Act.put, sa_, sz_, ss_, i64_w, i32_w]; rfl
        refine pure_ (i := 16) (N := some 31) (v := undef) (a' := ?_) (bq_ 17 20) rfl rfl (any_of HT_.out (by kernel_rfl)) (fun _ _ _ h => h) (Or.inr ⟨by rfl, rfl⟩) ?_ ?_
        rotate_left
        · simp only [Act.put, sa_, sz_, ss_, i64_w, i32_w]; rfl
        refine pure_ (i := 17) (N := some 32) (v := undef) (a' := ?_) (bq_ 18 19) rfl rfl (any_of HT_.out (by kernel_rfl)) (fun _ _ _ h => h) (Or.inr ⟨by rfl, rfl⟩) ?_ ?_
        rotate_left
        · simp only [Act.put, sa_, sz_, ss_, i64_w, i32_w]; rfl
        refine pure_ (i := 18) (N := some 33) (v := undef) (a' := ?_) (bq_ 19 18) rfl rfl (any_of HT_.out (by kernel_rfl)) (fun _ _ _ h => h) (Or.inr ⟨by rfl, rfl⟩) ?_ ?_
        rotate_left
        · simp only [Act.put, sa_, sz_, ss_, i64_w, i32_w]; rfl
        refine pure_ (i := 19) (N := some 34) (v := undef) (a' := ?_) (bq_ 20 17) rfl rfl (any_of HT_.out (by kernel_rfl)) (fun _ _ _ h => h) (Or.inr ⟨by rfl, rfl⟩) ?_ ?_
        rotate_left
        · simp only [Act.put, sa_, sz_, ss_, i64_w, i32_w]; rfl
        refine pure_ (i := 20) (N := some 35) (v := undef) (a' := ?_) (bq_ 21 16) rfl rfl (any_of HT_.out (by kernel_rfl)) (fun _ _ _ h => h) (Or.inr ⟨by rfl, rfl⟩) ?_ ?_
        rotate_left
        · simp only [Act.put, sa_, sz_, ss_, i64_w, i32_w]; rfl
        refine pu_ 21 (some 36) (bq_ 22 15) HT_ ?_
        refine pu_ 22 (some 37) (bq_ 23 14) HT_ ?_
        refine pure_ (i := 23) (N := some 38) (v := undef) (a' := ?_) (bq_ 24 13) rfl rfl (any_of HT_.out (by kernel_rfl)) (fun _ _ _ h => h) (Or.inr ⟨by rfl, rfl⟩) ?_ ?_
        rotate_left
        · simp only [Act.put, sa_, sz_, ss_, i64_w, i32_w]; rfl
        refine pure_ (i := 24) (N := some 39) (v := undef) (a' := ?_) (bq_ 25 12) rfl rfl (any_of HT_.out (by kernel_rfl)) (fun _ _ _ h => h) (Or.inr ⟨by rfl, rfl⟩) ?_ ?_
        rotate_left
        · simp only [Act.put, sa_, sz_, ss_, i64_w, i32_w]; rfl
        refine pure_ (i := 25) (N := some 40) (v := undef) (a' := ?_) (bq_ 26 11) rfl rfl (any_of HT_.out (by kernel_rfl)) (fun _ _ _ h => h) (Or.inr ⟨by rfl, rfl⟩) ?_ ?_
        rotate_left
        · simp only [Act.put, sa_, sz_, ss_, i64_w, i32_w]; rfl
        refine pure_ (i := 26) (N := some 41) (v := undef) (a' := ?_) (bq_ 27 10) rfl rfl (any_of HT_.out (by kernel_rfl)) (fun _ _ _ h => h) (Or.inr ⟨by rfl, rfl⟩) ?_ ?_
        rotate_left
        · simp only [Act.put, sa_, sz_, ss_, i64_w, i32_w]; rfl
        refine pure_ (i := 27) (N := some 42) (v := undef) (a' := ?_) (bq_ 28 9) rfl rfl (any_of HT_.out (by kernel_rfl)) (fun _ _ _ h => h) (Or.inr ⟨by rfl, rfl⟩) ?_ ?_
        rotate_left
        · simp only [Act.put, sa_, sz_, ss_, i64_w, i32_w]; rfl
        refine pure_ (i := 28) (N := some 43) (v := undef) (a' := ?_) (bq_ 29 8) rfl rfl (any_of HT_.out (by kernel_rfl)) (fun _ _ _ h => h) (Or.inr ⟨by rfl, rfl⟩) ?_ ?_
        rotate_left
        · simp only [Act.put, sa_, sz_, ss_, i64_w, i32_w]; rfl
        refine pure_ (i := 29) (N := some 44) (v := undef) (a' := ?_) (bq_ 30 7) rfl rfl (any_of HT_.out (by kernel_rfl)) (fun _ _ _ h => h) (Or.inr ⟨by rfl, rfl⟩) ?_ ?_
        rotate_left
        · simp only [Act.put, sa_, sz_, ss_, i64_w, i32_w]; rfl
        refine pure_ (i := 30) (N := some 45) (v := undef) (a' := ?_) (bq_ 31 6) rfl rfl (any_of HT_.out (by kernel_rfl)) (fun _ _ _ h => h) (Or.inr ⟨by rfl, rfl⟩) ?_ ?_
        rotate_left
        · simp only [Act.put, sa_, sz_, ss_, i64_w, i32_w]; rfl
        refine pure_ (i := 31) (N := some 46) (v := undef) (a' := ?_) (bq_ 32 5) rfl rfl (any_of HT_.out (by kernel_rfl)) (fun _ _ _ h => h) (Or.inr ⟨by rfl, rfl⟩) ?_ ?_
        rotate_left
        · simp only [Act.put, sa_, sz_, ss_, i64_w, i32_w]; rfl
        refine pure_ (i := 32) (N := some 47) (v := undef) (a' := ?_) (bq_ 33 4) rfl rfl (any_of HT_.out (by kernel_rfl)) (fun _ _ _ h => h) (Or.inr ⟨by rfl, rfl⟩) ?_ ?_
        rotate_left
        · simp only [Act.put, sa_, sz_, ss_, i64_w, i32_w]; rfl
        refine pure_ (i := 33) (N := some 48) (v := undef) (a' := ?_) (bq_ 34 3) rfl rfl (any_of HT_.out (by kernel_rfl)) (fun _ _ _ h => h) (Or.inr ⟨by rfl, rfl⟩) ?_ ?_
        rotate_left
        · simp only [Act.put, sa_, sz_, ss_, i64_w, i32_w]; rfl
        refine pure_ (i := 34) (N := some 49) (v := undef) (a' := ?_) (bq_ 35 2) rfl rfl (any_of HT_.out (by kernel_rfl)) (fun _ _ _ h => h) (Or.inr ⟨by rfl, rfl⟩) ?_ ?_
        rotate_left
        · simp only [Act.put, sa_, sz_, ss_, i64_w, i32_w]; rfl
        refine pure_ (i := 35) (N := some 50) (v := undef) (a' := ?_) (bq_ 36 1) rfl rfl (any_of HT_.out (by kernel_rfl)) (fun _ _ _ h => h) (Or.inr ⟨by rfl, rfl⟩) ?_ ?_
        rotate_left
        · simp only [Act.put, sa_, sz_, ss_, i64_w, i32_w]; rfl
        refine pu_ 36 (some 51) (bq_ 37 0) HT_ ?_
        refine done_ (done_of HT_.out (by kernel_rfl)) ?_
        try go_wp2
        go_ret
        exact ⟨rf_, b2_ HB.out GE568.out GE570.out⟩
      subst c9
      rw [if_pos rfl] at H
      by_cases c10 : x10_1 > 0
      rotate_left
      · rw [if_neg c10] at H
        have c10b0 : decide (0 < x10_1) = false := decide_eq_false c10
        clear c10
        replace H := Option.bind_eq_some_iff.mp H
        obtain ⟨t574, A370, H⟩ := H
        have A37 := Aside0.mk A370
        clear A370
        by_cases c38 : t574 = true
        rotate_left
        · replace c38 := Bool.eq_false_iff.mpr c38
          subst c38
          rw [if_neg (show ¬ (false = true) by decide)] at H
          obtain rfl := Option.some.inj H
          have p569 : 0 ≤ (x10_1 : Int) := od_
          have q569 : x10_1 < (l1_2.length : Int) := od_
          obtain ⟨ad569, A569_2, c569_2, e569, hx569_0, hx569_1, hx569_2, hl569_2, hi569_2⟩ := at_T63 HR1_2.out x10_1 p569 q569
          cases e569
          replace hx569_0 := (HB.out.cell (World.block_lt_of_cell? w _ hx569_0)).trans hx569_0
          replace hx569_1 := (HB.out.cell (World.block_lt_of_cell? w _ hx569_1)).trans hx569_1
          replace hx569_2 := (HB.out.cell (World.block_lt_of_cell? w _ hx569_2)).trans hx569_2
          have HR569_2 := Aside0.mk hi569_2
          have HC569_2 := Aside0.mk hl569_2
          clear hi569_2 hl569_2
          replace p569 := eq_true p569
          replace q569 := eq_true q569
          try go_wp2_with (first | ((with_reducible refine gate_dst (N := 6) rfl ?_); refine box_event rfl (N := 6) rfl (cs := #[.string (⟨#[]⟩ : ByteArray), .string (⟨#[]⟩ : ByteArray), .slice none 0 0]) (t := 63) hr_ ?_; intro gb570 hg w46 hbox hb; have BK570 := q_ (hbox); have GW570 := q_ ((by rw [hg]; exact (below_size (bs_ HB.out GE568.out)) : w.heap.size ≤ gb570)); have GE570 := q_ ((by rw [hg]; exact (below_size (bs_ HB.out GE568.out)) : w.heap.size ≤ gb570)); replace HB := q_ (below_step (bs_ HB.out GE568.out) hb); have NB568_570 := q_ ((by rw [hg]; exact Nat.ne_of_lt (blk_lt (g := gb568) (o := .cells #[.int .i64 a1_0, .int .i64 a1_1, .slice (some ad569) l1_2.length c1_2] 44 (0, 0)) (bk_ BK568.out)) : gb568 ≠ gb570)); have NB570_568 := q_ ((by rw [hg]; exact Nat.ne_of_gt (blk_lt (g := gb568) (o := .cells #[.int .i64 a1_0, .int .i64 a1_1, .slice (some ad569) l1_2.length c1_2] 44 (0, 0)) (bk_ BK568.out)) : gb570 ≠ gb568)); replace BK568 := q_ (bb_ BK568.out hb); clear hb hbox hg; have hnb47 := NB570_568.out; have hnc47 := NB568_570.out; obtain ⟨hcz48_0, hcz48_1, hcz48_2, hfz48_0, hfz48_1, hfz48_2⟩ := bx3_ BK570.out))
          have n0_ : Aside0 ((((w46.setCell ⟨gb570, 0, none⟩ (.string ((rd_T63 l1_2 x10_1).f0.f0))).setCell ⟨gb570, 1, none⟩ (.string ((rd_T63 l1_2 x10_1).f0.f1))).setCell ⟨gb570, 2, none⟩ (.slice A569_2 ((rd_T63 l1_2 x10_1).f1).length c569_2)).heap[gb568]? = some (.cells #[.int .i64 a1_0, .int .i64 a1_1, .slice (some ad569) l1_2.length c1_2] 44 (0, 0))) := ⟨by (with_reducible repeat (first | refine blk_drewN ?_ _ | refine blk_drew ?_ | refine blk_alloc ?_ _)); refine blk_far ?_ NB568_570.out _; (with_reducible repeat (first | refine blk_drewN ?_ _ | refine blk_drew ?_ | refine blk_alloc ?_ _)); refine blk_far ?_ NB568_570.out _; (with_reducible repeat (first | refine blk_drewN ?_ _ | refine blk_drew ?_ | refine blk_alloc ?_ _)); refine blk_far ?_ NB568_570.out _; (with_reducible repeat (first | refine blk_drewN ?_ _ | refine blk_drew ?_ | refine blk_alloc ?_ _)); exact BK568.out⟩
          have n1_ : Aside0 ((((w46.setCell ⟨gb570, 0, none⟩ (.string ((rd_T63 l1_2 x10_1).f0.f0))).setCell ⟨gb570, 1, none⟩ (.string ((rd_T63 l1_2 x10_1).f0.f1))).setCell ⟨gb570, 2, none⟩ (.slice A569_2 ((rd_T63 l1_2 x10_1).f1).length c569_2)).heap[gb570]? = some (.cells #[.string ((rd_T63 l1_2 x10_1).f0.f0), .string ((rd_T63 l1_2 x10_1).f0.f1), .slice A569_2 ((rd_T63 l1_2 x10_1).f1).length c569_2] 63 (0, 0))) := ⟨by (with_reducible repeat (first | refine blk_drewN ?_ _ | refine blk_drew ?_ | refine blk_alloc ?_ _)); refine blk_put (cs := #[.string ((rd_T63 l1_2 x10_1).f0.f0), .string ((rd_T63 l1_2 x10_1).f0.f1), .slice none 0 0]) ?_ 2 _ rfl; (with_reducible repeat (first | refine blk_drewN ?_ _ | refine blk_drew ?_ | refine blk_alloc ?_ _)); refine blk_put (cs := #[.string ((rd_T63 l1_2 x10_1).f0.f0), .string (⟨#[]⟩ : ByteArray), .slice none 0 0]) ?_ 1 _ rfl; (with_reducible repeat (first | refine blk_drewN ?_ _ | refine blk_drew ?_ | refine blk_alloc ?_ _)); refine blk_put (cs := #[.string (⟨#[]⟩ : ByteArray), .string (⟨#[]⟩ : ByteArray), .slice none 0 0]) ?_ 0 _ rfl; (with_reducible repeat (first | refine blk_drewN ?_ _ | refine blk_drew ?_ | refine blk_alloc ?_ _)); exact BK570.out⟩
          have n2_ : Aside0 (Below w.heap.size w (((w46.setCell ⟨gb570, 0, none⟩ (.string ((rd_T63 l1_2 x10_1).f0.f0))).setCell ⟨gb570, 1, none⟩ (.string ((rd_T63 l1_2 x10_1).f0.f1))).setCell ⟨gb570, 2, none⟩ (.slice A569_2 ((rd_T63 l1_2 x10_1).f1).length c569_2))) := ⟨b2_ HB.out GE568.out GE570.out⟩
          (try clear BK568)
          (try clear BK570)
          (try clear HB)
          generalize (((w46.setCell ⟨gb570, 0, none⟩ (.string ((rd_T63 l1_2 x10_1).f0.f0))).setCell ⟨gb570, 1, none⟩ (.string ((rd_T63 l1_2 x10_1).f0.f1))).setCell ⟨gb570, 2, none⟩ (.slice A569_2 ((rd_T63 l1_2 x10_1).f1).length c569_2)) = w49 at n0_ n1_ n2_ ⊢
          have BK568 := n0_
          have BK570 := n1_
          have HB := n2_
          clear n0_ n1_ n2_
          replace BK568 := q_ (blk_drew BK568.out)
          replace BK570 := q_ (blk_drew BK570.out)
          replace HB := q_ (below_drew1 HB.out)
          refine start_ (n := 37) (S := fun w' => w'.cell? ⟨gb570, 0, none⟩ = some (.string ((rd_T63 l1_2 x10_1).f0.f0)) ∧ w'.cell? ⟨gb570, 1, none⟩ = some (.string ((rd_T63 l1_2 x10_1).f0.f1)) ∧ w'.cell? ⟨gb570, 2, none⟩ = some (.slice A569_2 ((rd_T63 l1_2 x10_1).f1).length c569_2) ∧ w'.cell? ⟨gb568, 0, none⟩ = some (.int .i64 a1_0) ∧ w'.cell? ⟨gb568, 1, none⟩ = some (.int .i64 a1_1) ∧ w'.cell? ⟨gb568, 2, none⟩ = some (.slice (some ad569) l1_2.length c1_2)) (ds := []) (bq_ 0 37) (by kernel_rfl) rfl rfl ⟨(blk_cell BK570.out 0).trans rfl, (blk_cell BK570.out 1).trans rfl, (blk_cell BK570.out 2).trans rfl, (blk_cell BK568.out 0).trans rfl, (blk_cell BK568.out 1).trans rfl, (blk_cell BK568.out 2).trans rfl⟩ (fun hHeld => ?_); refine with_tabW impl_itemsOk.tab4 impl_itemsOk.bits4 (fun HT_ HW_ => ?_)
          generalize w49.drew = w50 at BK568 BK570 HB hHeld ⊢
          refine pu_ 0 (some 15) (bq_ 1 36) HT_ ?_
          refine take_ (i := 1) (N := some 16) (v := ?_) (a' := ?_) (bq_ 2 35) rfl rfl (take_ofW HT_.out HW_.out (by kernel_rfl)) (fun _ _ _ h => h) (Or.inl ⟨by rfl, ?_⟩) hHeld ?_ ?_
          rotate_left
          · rintro w' ⟨s0, s1, s2, s3, s4, s5⟩
            go_simp
            with_reducible rfl
          rotate_left
          · simp only [Act.put, sa_, sz_, ss_, i64_w, i32_w]; rfl
          refine on_ 2 (some 17) (bq_ 3 34) HT_ (fun K hK => ?_)
          refine goes_ Try.func98 (by kernel_rfl) rfl #[.agg #[.string ((rd_T63 l1_2 x10_1).f0.f0), .string ((rd_T63 l1_2 x10_1).f0.f1)]] (by rfl) rfl rfl al_ ?_
          with_reducible refine (impl_PairOk.calls k1 ((rd_T63 l1_2 x10_1).f0.f0) ((rd_T63 l1_2 x10_1).f0.f1) true _ A8.out).mono ?_
          rintro e w51 ⟨rfl, hb⟩
          refine ⟨_, rfl, ?_⟩
          replace BK568 := q_ (bb_ BK568.out hb)
          replace BK570 := q_ (bb_ BK570.out hb)
          replace HB := q_ (below_step (b2_ HB.out GE568.out GE570.out) hb)
          (try clear hb)
          (try clear hb2)
          (try clear hk)
          (try clear hi)
          refine hK.out _ _ ⟨(blk_cell BK570.out 0).trans rfl, (blk_cell BK570.out 1).trans rfl, (blk_cell BK570.out 2).trans rfl, (blk_cell BK568.out 0).trans rfl, (blk_cell BK568.out 1).trans rfl, (blk_cell BK568.out 2).trans rfl⟩ (fun hHeld => ?_)
          clear hK K
          refine nm_ ?_
          refine pu_ 3 (some 18) (bq_ 4 33) HT_ ?_
          refine pu_ 4 (some 19) (bq_ 5 32) HT_ ?_
          refine pu_ 5 (some 20) (bq_ 6 31) HT_ ?_
          refine pu_ 6 (some 21) (bq_ 7 30) HT_ ?_
          refine pu_ 7 (some 22) (bq_ 8 29) HT_ ?_
          refine pure_ (i := 8) (N := some 23) (v := undef) (a' := ?_) (bq_ 9 28) rfl rfl (any_of HT_.out (by kernel_rfl)) (fun _ _ _ h => h) (Or.inr ⟨by rfl, rfl⟩) ?_ ?_
          rotate_left
          · simp only [Act.put, sa_, sz_, ss_, i64_w, i32_w]; rfl
          refine pure_ (i := 9) (N := some 24) (v := undef) (a' := ?_) (bq_ 10 27) rfl rfl (any_of HT_.out (by kernel_rfl)) (fun _ _ _ h => h) (Or.inr ⟨by rfl, rfl⟩) ?_ ?_
          rotate_left
          · simp only [Act.put, sa_, sz_, ss_, i64_w, i32_w]; rfl
          refine pure_ (i := 10) (N := some 25) (v := undef) (a' := ?_) (bq_ 11 26) rfl rfl (any_of HT_.out (by kernel_rfl)) (fun _ _ _ h => h) (Or.inr ⟨by rfl, rfl⟩) ?_ ?_
          rotate_left
          · simp only [Act.put, sa_, sz_, ss_, i64_w, i32_w]; rfl
          refine pure_ (i := 11) (N := some 26) (v := undef) (a' := ?_) (bq_ 12 25) rfl rfl (any_of HT_.out (by kernel_rfl)) (fun _ _ _ h => h) (Or.inr ⟨by rfl, rfl⟩) ?_ ?_
          rotate_left
          · simp only [Act.put, sa_, sz_, ss_, i64_w, i32_w]; rfl
          refine pure_ (i := 12) (N := some 27) (v := undef) (a' := ?_) (bq_ 13 24) rfl rfl (any_of HT_.out (by kernel_rfl)) (fun _ _ _ h => h) (Or.inr ⟨by rfl, rfl⟩) ?_ ?_
          rotate_left
          · simp only [Act.put, sa_, sz_, ss_, i64_w, i32_w]; rfl
          refine pure_ (i := 13) (N := some 28) (v := undef) (a' := ?_) (bq_ 14 23) rfl rfl (any_of HT_.out (by kernel_rfl)) (fun _ _ _ h => h) (Or.inr ⟨by rfl, rfl⟩) ?_ ?_
          rotate_left
          · simp only [Act.put, sa_, sz_, ss_, i64_w, i32_w]; rfl
          refine pure_ (i := 14) (N := some 29) (v := undef) (a' := ?_) (bq_ 15 22) rfl rfl (any_of HT_.out (by kernel_rfl)) (fun _ _ _ h => h) (Or.inr ⟨by rfl, rfl⟩) ?_ ?_
          rotate_left
          · simp only [Act.put, sa_, sz_, ss_, i64_w, i32_w]; rfl
          refine pure_ (i := 15) (N := some 30) (v := undef) (a' := ?_) (bq_ 16 21) rfl rfl (any_of HT_.out (by kernel_rfl)) (fun _ _ _ h => h) (Or.inr ⟨by rfl, rfl⟩) ?_ ?_
          rotate_left
          · simp only [Act.put, sa_, sz_, ss_, i64_w, i32_w]; rfl
          refine pure_ (i := 16) (N := some 31) (v := undef) (a' := ?_) (bq_ 17 20) rfl rfl (any_of HT_.out (by kernel_rfl)) (fun _ _ _ h => h) (Or.inr ⟨by rfl, rfl⟩) ?_ ?_
          rotate_left
          · simp only [Act.put, sa_, sz_, ss_, i64_w, i32_w]; rfl
          refine pure_ (i := 17) (N := some 32) (v := undef) (a' := ?_) (bq_ 18 19) rfl rfl (any_of HT_.out (by kernel_rfl)) (fun _ _ _ h => h) (Or.inr ⟨by rfl, rfl⟩) ?_ ?_
          rotate_left
          · simp only [Act.put, sa_, sz_, ss_, i64_w, i32_w]; rfl
          refine pure_ (i := 18) (N := some 33) (v := undef) (a' := ?_) (bq_ 19 18) rfl rfl (any_of HT_.out (by kernel_rfl)) (fun _ _ _ h => h) (Or.inr ⟨by rfl, rfl⟩) ?_ ?_
          rotate_left
          · simp only [Act.put, sa_, sz_, ss_, i64_w, i32_w]; rfl
          refine pure_ (i := 19) (N := some 34) (v := undef) (a' := ?_) (bq_ 20 17) rfl rfl (any_of HT_.out (by kernel_rfl)) (fun _ _ _ h => h) (Or.inr ⟨by rfl, rfl⟩) ?_ ?_
          rotate_left
          · simp only [Act.put, sa_, sz_, ss_, i64_w, i32_w]; rfl
          refine pu_ 20 (some 35) (bq_ 21 16) HT_ ?_
          refine pu_ 21 (some 36) (bq_ 22 15) HT_ ?_
          refine pu_ 22 (some 37) (bq_ 23 14) HT_ ?_
          refine pu_ 23 (some 38) (bq_ 24 13) HT_ ?_
          refine pu_ 25 (some 40) (br_ [24, 1, 1, 11]) HT_ ?_
          refine pu_ 27 (some 42) (br_ [24, 1, 1, 1, 1, 9]) HT_ ?_
          refine pu_ 29 (some 44) (br_ [24, 1, 1, 1, 1, 1, 1, 7]) HT_ ?_
          refine pu_ 31 (some 46) (br_ [24, 1, 1, 1, 1, 1, 1, 1, 1, 5]) HT_ ?_
          refine pu_ 33 (some 48) (br_ [24, 1, 1, 1, 1, 1, 1, 1, 1, 1, 1, 3]) HT_ ?_
          refine take_ (i := 24) (N := some 39) (v := ?_) (a' := ?_) (br_ [26, 1, 1, 1, 1, 1, 1, 1, 1, 3]) rfl rfl (take_ofW HT_.out HW_.out (by kernel_rfl)) (fun _ _ _ h => h) (Or.inl ⟨by rfl, ?_⟩) hHeld ?_ ?_
          rotate_left
          · rintro w' ⟨s0, s1, s2, s3, s4, s5⟩
            go_simp
            with_reducible rfl
          rotate_left
          · simp only [Act.put, sa_, sz_, ss_, i64_w, i32_w]; rfl
          refine take_ (i := 26) (N := some 41) (v := ?_) (a' := ?_) (br_ [28, 1, 1, 1, 1, 1, 1, 3]) rfl rfl (take_ofW HT_.out HW_.out (by kernel_rfl)) (fun _ _ _ h => h) (Or.inl ⟨by rfl, ?_⟩) hHeld ?_ ?_
          rotate_left
          · rintro w' ⟨s0, s1, s2, s3, s4, s5⟩
            go_simp
            with_reducible rfl
          rotate_left
          · simp only [Act.put, sa_, sz_, ss_, i64_w, i32_w]; rfl
          refine pu_ 28 (some 43) (br_ [30, 1, 1, 1, 1, 3]) HT_ ?_
          refine take_ (i := 30) (N := some 45) (v := ?_) (a' := ?_) (br_ [32, 1, 1, 3]) rfl rfl (take_ofW HT_.out HW_.out (by kernel_rfl)) (fun _ _ _ h => h) (Or.inl ⟨by rfl, ?_⟩) hHeld ?_ ?_
          rotate_left
          · rintro w' ⟨s0, s1, s2, s3, s4, s5⟩
            go_simp
            with_reducible rfl
          rotate_left
          · simp only [Act.put, sa_, sz_, ss_, i64_w, i32_w]; rfl
          refine take_ (i := 32) (N := some 47) (v := ?_) (a' := ?_) (bq_ 34 3) rfl rfl (take_ofW HT_.out HW_.out (by kernel_rfl)) (fun _ _ _ h => h) (Or.inl ⟨by rfl, ?_⟩) hHeld ?_ ?_
          rotate_left
          · rintro w' ⟨s0, s1, s2, s3, s4, s5⟩
            go_simp
            with_reducible rfl
          rotate_left
          · simp only [Act.put, sa_, sz_, ss_, i64_w, i32_w]; rfl
          refine on_ 34 (some 49) (bq_ 35 2) HT_ (fun K hK => ?_)
          refine goes_ Try.func15 (by kernel_rfl) rfl #[.agg #[.string ((rd_T63 l1_2 x10_1).f0.f0), .string ((rd_T63 l1_2 x10_1).f0.f1)], .int .i64 (wrap64 (a1_1 + x10_1)), .int .i64 a1_0, .slice A569_2 ((rd_T63 l1_2 x10_1).f1).length c569_2, .string a0] (by rfl) rfl rfl al_ ?_
          with_reducible refine (impl_CheckPath.calls k1 ((rd_T63 l1_2 x10_1).f0.f0) ((rd_T63 l1_2 x10_1).f0.f1) (wrap64 (a1_1 + x10_1)) a1_0 _ _ ((rd_T63 l1_2 x10_1).f1) a0 false _ ?side1 ?side2 A37.out).mono ?_
          (case side1 => exact kc_ (Kd.C_below HR569_2.out HB.out))
          (case side2 => exact HC569_2.out)
          rintro e w52 ⟨rfl, hb⟩
          refine ⟨_, rfl, ?_⟩
          replace BK568 := q_ (bb_ BK568.out hb)
          replace BK570 := q_ (bb_ BK570.out hb)
          replace HB := q_ (below_step (b2_ HB.out GE568.out GE570.out) hb)
          (try clear hb)
          (try clear hb2)
          (try clear hk)
          (try clear hi)
          refine hK.out _ _ ⟨(blk_cell BK570.out 0).trans rfl, (blk_cell BK570.out 1).trans rfl, (blk_cell BK570.out 2).trans rfl, (blk_cell BK568.out 0).trans rfl, (blk_cell BK568.out 1).trans rfl, (blk_cell BK568.out 2).trans rfl⟩ (fun hHeld => ?_)
          clear hK K
          refine nm_ ?_
          refine pu_ 35 (some 50) (bq_ 36 1) HT_ ?_
          refine pu_ 36 (some 51) (bq_ 37 0) HT_ ?_
          refine done_ (done_of HT_.out (by kernel_rfl)) ?_
          try go_wp2
          go_ret
          exact ⟨rf_, b2_ HB.out GE568.out GE570.out⟩
        subst c38
        rw [if_pos rfl] at H
        have H' := Aside0.mk H
        clear H
        have p569 : 0 ≤ (x10_1 : Int) := od_
        have q569 : x10_1 < (l1_2.length : Int) := od_
        obtain ⟨ad569, A569_2, c569_2, e569, hx569_0, hx569_1, hx569_2, hl569_2, hi569_2⟩ := at_T63 HR1_2.out x10_1 p569 q569
        cases e569
        replace hx569_0 := (HB.out.cell (World.block_lt_of_cell? w _ hx569_0)).trans hx569_0
        replace hx569_1 := (HB.out.cell (World.block_lt_of_cell? w _ hx569_1)).trans hx569_1
        replace hx569_2 := (HB.out.cell (World.block_lt_of_cell? w _ hx569_2)).trans hx569_2
        have HR569_2 := Aside0.mk hi569_2
        have HC569_2 := Aside0.mk hl569_2
        clear hi569_2 hl569_2
        replace p569 := eq_true p569
        replace q569 := eq_true q569
        try go_wp2_with (first | ((with_reducible refine gate_dst (N := 6) rfl ?_); refine box_event rfl (N := 6) rfl (cs := #[.string (⟨#[]⟩ : ByteArray), .string (⟨#[]⟩ : ByteArray), .slice none 0 0]) (t := 63) hr_ ?_; intro gb570 hg w39 hbox hb; have BK570 := q_ (hbox); have GW570 := q_ ((by rw [hg]; exact (below_size (bs_ HB.out GE568.out)) : w.heap.size ≤ gb570)); have GE570 := q_ ((by rw [hg]; exact (below_size (bs_ HB.out GE568.out)) : w.heap.size ≤ gb570)); replace HB := q_ (below_step (bs_ HB.out GE568.out) hb); have NB568_570 := q_ ((by rw [hg]; exact Nat.ne_of_lt (blk_lt (g := gb568) (o := .cells #[.int .i64 a1_0, .int .i64 a1_1, .slice (some ad569) l1_2.length c1_2] 44 (0, 0)) (bk_ BK568.out)) : gb568 ≠ gb570)); have NB570_568 := q_ ((by rw [hg]; exact Nat.ne_of_gt (blk_lt (g := gb568) (o := .cells #[.int .i64 a1_0, .int .i64 a1_1, .slice (some ad569) l1_2.length c1_2] 44 (0, 0)) (bk_ BK568.out)) : gb570 ≠ gb568)); replace BK568 := q_ (bb_ BK568.out hb); clear hb hbox hg; have hnb40 := NB570_568.out; have hnc40 := NB568_570.out; obtain ⟨hcz41_0, hcz41_1, hcz41_2, hfz41_0, hfz41_1, hfz41_2⟩ := bx3_ BK570.out))
        have n0_ : Aside0 ((((w39.setCell ⟨gb570, 0, none⟩ (.string ((rd_T63 l1_2 x10_1).f0.f0))).setCell ⟨gb570, 1, none⟩ (.string ((rd_T63 l1_2 x10_1).f0.f1))).setCell ⟨gb570, 2, none⟩ (.slice A569_2 ((rd_T63 l1_2 x10_1).f1).length c569_2)).heap[gb568]? = some (.cells #[.int .i64 a1_0, .int .i64 a1_1, .slice (some ad569) l1_2.length c1_2] 44 (0, 0))) := ⟨by (with_reducible repeat (first | refine blk_drewN ?_ _ | refine blk_drew ?_ | refine blk_alloc ?_ _)); refine blk_far ?_ NB568_570.out _; (with_reducible repeat (first | refine blk_drewN ?_ _ | refine blk_drew ?_ | refine blk_alloc ?_ _)); refine blk_far ?_ NB568_570.out _; (with_reducible repeat (first | refine blk_drewN ?_ _ | refine blk_drew ?_ | refine blk_alloc ?_ _)); refine blk_far ?_ NB568_570.out _; (with_reducible repeat (first | refine blk_drewN ?_ _ | refine blk_drew ?_ | refine blk_alloc ?_ _)); exact BK568.out⟩
        have n1_ : Aside0 ((((w39.setCell ⟨gb570, 0, none⟩ (.string ((rd_T63 l1_2 x10_1).f0.f0))).setCell ⟨gb570, 1, none⟩ (.string ((rd_T63 l1_2 x10_1).f0.f1))).setCell ⟨gb570, 2, none⟩ (.slice A569_2 ((rd_T63 l1_2 x10_1).f1).length c569_2)).heap[gb570]? = some (.cells #[.string ((rd_T63 l1_2 x10_1).f0.f0), .string ((rd_T63 l1_2 x10_1).f0.f1), .slice A569_2 ((rd_T63 l1_2 x10_1).f1).length c569_2] 63 (0, 0))) := ⟨by (with_reducible repeat (first | refine blk_drewN ?_ _ | refine blk_drew ?_ | refine blk_alloc ?_ _)); refine blk_put (cs := #[.string ((rd_T63 l1_2 x10_1).f0.f0), .string ((rd_T63 l1_2 x10_1).f0.f1), .slice none 0 0]) ?_ 2 _ rfl; (with_reducible repeat (first | refine blk_drewN ?_ _ | refine blk_drew ?_ | refine blk_alloc ?_ _)); refine blk_put (cs := #[.string ((rd_T63 l1_2 x10_1).f0.f0), .string (⟨#[]⟩ : ByteArray), .slice none 0 0]) ?_ 1 _ rfl; (with_reducible repeat (first | refine blk_drewN ?_ _ | refine blk_drew ?_ | refine blk_alloc ?_ _)); refine blk_put (cs := #[.string (⟨#[]⟩ : ByteArray), .string (⟨#[]⟩ : ByteArray), .slice none 0 0]) ?_ 0 _ rfl; (with_reducible repeat (first | refine blk_drewN ?_ _ | refine blk_drew ?_ | refine blk_alloc ?_ _)); exact BK570.out⟩
        have n2_ : Aside0 (Below w.heap.size w (((w39.setCell ⟨gb570, 0, none⟩ (.string ((rd_T63 l1_2 x10_1).f0.f0))).setCell ⟨gb570, 1, none⟩ (.string ((rd_T63 l1_2 x10_1).f0.f1))).setCell ⟨gb570, 2, none⟩ (.slice A569_2 ((rd_T63 l1_2 x10_1).f1).length c569_2))) := ⟨b2_ HB.out GE568.out GE570.out⟩
        (try clear BK568)
        (try clear BK570)
        (try clear HB)
        generalize (((w39.setCell ⟨gb570, 0, none⟩ (.string ((rd_T63 l1_2 x10_1).f0.f0))).setCell ⟨gb570, 1, none⟩ (.string ((rd_T63 l1_2 x10_1).f0.f1))).setCell ⟨gb570, 2, none⟩ (.slice A569_2 ((rd_T63 l1_2 x10_1).f1).length c569_2)) = w42 at n0_ n1_ n2_ ⊢
        have BK568 := n0_
        have BK570 := n1_
        have HB := n2_
        clear n0_ n1_ n2_
        replace BK568 := q_ (blk_drew BK568.out)
        replace BK570 := q_ (blk_drew BK570.out)
        replace HB := q_ (below_drew1 HB.out)
        refine start_ (n := 37) (S := fun w' => w'.cell? ⟨gb570, 0, none⟩ = some (.string ((rd_T63 l1_2 x10_1).f0.f0)) ∧ w'.cell? ⟨gb570, 1, none⟩ = some (.string ((rd_T63 l1_2 x10_1).f0.f1)) ∧ w'.cell? ⟨gb570, 2, none⟩ = some (.slice A569_2 ((rd_T63 l1_2 x10_1).f1).length c569_2) ∧ w'.cell? ⟨gb568, 0, none⟩ = some (.int .i64 a1_0) ∧ w'.cell? ⟨gb568, 1, none⟩ = some (.int .i64 a1_1) ∧ w'.cell? ⟨gb568, 2, none⟩ = some (.slice (some ad569) l1_2.length c1_2)) (ds := []) (bq_ 0 37) (by kernel_rfl) rfl rfl ⟨(blk_cell BK570.out 0).trans rfl, (blk_cell BK570.out 1).trans rfl, (blk_cell BK570.out 2).trans rfl, (blk_cell BK568.out 0).trans rfl, (blk_cell BK568.out 1).trans rfl, (blk_cell BK568.out 2).trans rfl⟩ (fun hHeld => ?_); refine with_tabW impl_itemsOk.tab4 impl_itemsOk.bits4 (fun HT_ HW_ => ?_)
        generalize w42.drew = w43 at BK568 BK570 HB hHeld ⊢
        refine pu_ 0 (some 15) (bq_ 1 36) HT_ ?_
        refine take_ (i := 1) (N := some 16) (v := ?_) (a' := ?_) (bq_ 2 35) rfl rfl (take_ofW HT_.out HW_.out (by kernel_rfl)) (fun _ _ _ h => h) (Or.inl ⟨by rfl, ?_⟩) hHeld ?_ ?_
        rotate_left
        · rintro w' ⟨s0, s1, s2, s3, s4, s5⟩
          go_simp
          with_reducible rfl
        rotate_left
        · simp only [Act.put, sa_, sz_, ss_, i64_w, i32_w]; rfl
        refine on_ 2 (some 17) (bq_ 3 34) HT_ (fun K hK => ?_)
        refine goes_ Try.func98 (by kernel_rfl) rfl #[.agg #[.string ((rd_T63 l1_2 x10_1).f0.f0), .string ((rd_T63 l1_2 x10_1).f0.f1)]] (by rfl) rfl rfl al_ ?_
        with_reducible refine (impl_PairOk.calls k1 ((rd_T63 l1_2 x10_1).f0.f0) ((rd_T63 l1_2 x10_1).f0.f1) true _ A8.out).mono ?_
        rintro e w44 ⟨rfl, hb⟩
        refine ⟨_, rfl, ?_⟩
        replace BK568 := q_ (bb_ BK568.out hb)
        replace BK570 := q_ (bb_ BK570.out hb)
        replace HB := q_ (below_step (b2_ HB.out GE568.out GE570.out) hb)
        (try clear hb)
        (try clear hb2)
        (try clear hk)
        (try clear hi)
        refine hK.out _ _ ⟨(blk_cell BK570.out 0).trans rfl, (blk_cell BK570.out 1).trans rfl, (blk_cell BK570.out 2).trans rfl, (blk_cell BK568.out 0).trans rfl, (blk_cell BK568.out 1).trans rfl, (blk_cell BK568.out 2).trans rfl⟩ (fun hHeld => ?_)
        clear hK K
        refine nm_ ?_
        refine pu_ 3 (some 18) (bq_ 4 33) HT_ ?_
        refine pu_ 4 (some 19) (bq_ 5 32) HT_ ?_
        refine pu_ 5 (some 20) (bq_ 6 31) HT_ ?_
        refine pu_ 6 (some 21) (bq_ 7 30) HT_ ?_
        refine pu_ 7 (some 22) (bq_ 8 29) HT_ ?_
        refine pure_ (i := 8) (N := some 23) (v := undef) (a' := ?_) (bq_ 9 28) rfl rfl (any_of HT_.out (by kernel_rfl)) (fun _ _ _ h => h) (Or.inr ⟨by rfl, rfl⟩) ?_ ?_
        rotate_left
        · simp only [Act.put, sa_, sz_, ss_, i64_w, i32_w]; rfl
        refine pure_ (i := 9) (N := some 24) (v := undef) (a' := ?_) (bq_ 10 27) rfl rfl (any_of HT_.out (by kernel_rfl)) (fun _ _ _ h => h) (Or.inr ⟨by rfl, rfl⟩) ?_ ?_
        rotate_left
        · simp only [Act.put, sa_, sz_, ss_, i64_w, i32_w]; rfl
        refine pure_ (i := 10) (N := some 25) (v := undef) (a' := ?_) (bq_ 11 26) rfl rfl (any_of HT_.out (by kernel_rfl)) (fun _ _ _ h => h) (Or.inr ⟨by rfl, rfl⟩) ?_ ?_
        rotate_left
        · simp only [Act.put, sa_, sz_, ss_, i64_w, i32_w]; rfl
        refine pure_ (i := 11) (N := some 26) (v := undef) (a' := ?_) (bq_ 12 25) rfl rfl (any_of HT_.out (by kernel_rfl)) (fun _ _ _ h => h) (Or.inr ⟨by rfl, rfl⟩) ?_ ?_
        rotate_left
        · simp only [Act.put, sa_, sz_, ss_, i64_w, i32_w]; rfl
        refine pure_ (i := 12) (N := some 27) (v := undef) (a' := ?_) (bq_ 13 24) rfl rfl (any_of HT_.out (by kernel_rfl)) (fun _ _ _ h => h) (Or.inr ⟨by rfl, rfl⟩) ?_ ?_
        rotate_left
        · simp only [Act.put, sa_, sz_, ss_, i64_w, i32_w]; rfl
        refine pure_ (i := 13) (N := some 28) (v := undef) (a' := ?_) (bq_ 14 23) rfl rfl (any_of HT_.out (by kernel_rfl)) (fun _ _ _ h => h) (Or.inr ⟨by rfl, rfl⟩) ?_ ?_
        rotate_left
        · simp only [Act.put, sa_, sz_, ss_, i64_w, i32_w]; rfl
        refine pure_ (i := 14) (N := some 29) (v := undef) (a' := ?_) (bq_ 15 22) rfl rfl (any_of HT_.out (by kernel_rfl)) (fun _ _ _ h => h) (Or.inr ⟨by rfl, rfl⟩) ?_ ?_
        rotate_left
        · simp only [Act.put, sa_, sz_, ss_, i64_w, i32_w]; rfl
        refine pure_ (i := 15) (N := some 30) (v := undef) (a' := ?_) (bq_ 16 21) rfl rfl (any_of HT_.out (by kernel_rfl)) (fun _ _ _ h => h) (Or.inr ⟨by rfl, rfl⟩) ?_ ?_
        rotate_left
        · simp only [Act.put, sa_, sz_, ss_, i64_w, i32_w]; rfl
        refine pure_ (i := 16) (N := some 31) (v := undef) (a' := ?_) (bq_ 17 20) rfl rfl (any_of HT_.out (by kernel_rfl)) (fun _ _ _ h => h) (Or.inr ⟨by rfl, rfl⟩) ?_ ?_
        rotate_left
        · simp only [Act.put, sa_, sz_, ss_, i64_w, i32_w]; rfl
        refine pure_ (i := 17) (N := some 32) (v := undef) (a' := ?_) (bq_ 18 19) rfl rfl (any_of HT_.out (by kernel_rfl)) (fun _ _ _ h => h) (Or.inr ⟨by rfl, rfl⟩) ?_ ?_
        rotate_left
        · simp only [Act.put, sa_, sz_, ss_, i64_w, i32_w]; rfl
        refine pure_ (i := 18) (N := some 33) (v := undef) (a' := ?_) (bq_ 19 18) rfl rfl (any_of HT_.out (by kernel_rfl)) (fun _ _ _ h => h) (Or.inr ⟨by rfl, rfl⟩) ?_ ?_
        rotate_left
        · simp only [Act.put, sa_, sz_, ss_, i64_w, i32_w]; rfl
        refine pure_ (i := 19) (N := some 34) (v := undef) (a' := ?_) (bq_ 20 17) rfl rfl (any_of HT_.out (by kernel_rfl)) (fun _ _ _ h => h) (Or.inr ⟨by rfl, rfl⟩) ?_ ?_
        rotate_left
        · simp only [Act.put, sa_, sz_, ss_, i64_w, i32_w]; rfl
        refine pu_ 20 (some 35) (bq_ 21 16) HT_ ?_
        refine pu_ 21 (some 36) (bq_ 22 15) HT_ ?_
        refine pu_ 22 (some 37) (bq_ 23 14) HT_ ?_
        refine pu_ 23 (some 38) (bq_ 24 13) HT_ ?_
        refine pu_ 25 (some 40) (br_ [24, 1, 1, 11]) HT_ ?_
        refine pu_ 27 (some 42) (br_ [24, 1, 1, 1, 1, 9]) HT_ ?_
        refine pu_ 29 (some 44) (br_ [24, 1, 1, 1, 1, 1, 1, 7]) HT_ ?_
        refine pu_ 31 (some 46) (br_ [24, 1, 1, 1, 1, 1, 1, 1, 1, 5]) HT_ ?_
        refine pu_ 33 (some 48) (br_ [24, 1, 1, 1, 1, 1, 1, 1, 1, 1, 1, 3]) HT_ ?_
        refine take_ (i := 24) (N := some 39) (v := ?_) (a' := ?_) (br_ [26, 1, 1, 1, 1, 1, 1, 1, 1, 3]) rfl rfl (take_ofW HT_.out HW_.out (by kernel_rfl)) (fun _ _ _ h => h) (Or.inl ⟨by rfl, ?_⟩) hHeld ?_ ?_
        rotate_left
        · rintro w' ⟨s0, s1, s2, s3, s4, s5⟩
          go_simp
          with_reducible rfl
        rotate_left
        · simp only [Act.put, sa_, sz_, ss_, i64_w, i32_w]; rfl
        refine take_ (i := 26) (N := some 41) (v := ?_) (a' := ?_) (br_ [28, 1, 1, 1, 1, 1, 1, 3]) rfl rfl (take_ofW HT_.out HW_.out (by kernel_rfl)) (fun _ _ _ h => h) (Or.inl ⟨by rfl, ?_⟩) hHeld ?_ ?_
        rotate_left
        · rintro w' ⟨s0, s1, s2, s3, s4, s5⟩
          go_simp
          with_reducible rfl
        rotate_left
        · simp only [Act.put, sa_, sz_, ss_, i64_w, i32_w]; rfl
        refine pu_ 28 (some 43) (br_ [30, 1, 1, 1, 1, 3]) HT_ ?_
        refine take_ (i := 30) (N := some 45) (v := ?_) (a' := ?_) (br_ [32, 1, 1, 3]) rfl rfl (take_ofW HT_.out HW_.out (by kernel_rfl)) (fun _ _ _ h => h) (Or.inl ⟨by rfl, ?_⟩) hHeld ?_ ?_
        rotate_left
        · rintro w' ⟨s0, s1, s2, s3, s4, s5⟩
          go_simp
          with_reducible rfl
        rotate_left
        · simp only [Act.put, sa_, sz_, ss_, i64_w, i32_w]; rfl
        refine take_ (i := 32) (N := some 47) (v := ?_) (a' := ?_) (bq_ 34 3) rfl rfl (take_ofW HT_.out HW_.out (by kernel_rfl)) (fun _ _ _ h => h) (Or.inl ⟨by rfl, ?_⟩) hHeld ?_ ?_
        rotate_left
        · rintro w' ⟨s0, s1, s2, s3, s4, s5⟩
          go_simp
          with_reducible rfl
        rotate_left
        · simp only [Act.put, sa_, sz_, ss_, i64_w, i32_w]; rfl
        refine on_ 34 (some 49) (bq_ 35 2) HT_ (fun K hK => ?_)
        refine goes_ Try.func15 (by kernel_rfl) rfl #[.agg #[.string ((rd_T63 l1_2 x10_1).f0.f0), .string ((rd_T63 l1_2 x10_1).f0.f1)], .int .i64 (wrap64 (a1_1 + x10_1)), .int .i64 a1_0, .slice A569_2 ((rd_T63 l1_2 x10_1).f1).length c569_2, .string a0] (by rfl) rfl rfl al_ ?_
        with_reducible refine (impl_CheckPath.calls k1 ((rd_T63 l1_2 x10_1).f0.f0) ((rd_T63 l1_2 x10_1).f0.f1) (wrap64 (a1_1 + x10_1)) a1_0 _ _ ((rd_T63 l1_2 x10_1).f1) a0 true _ ?side1 ?side2 A37.out).mono ?_
        (case side1 => exact kc_ (Kd.C_below HR569_2.out HB.out))
        (case side2 => exact HC569_2.out)
        rintro e w45 ⟨rfl, hb⟩
        refine ⟨_, rfl, ?_⟩
        replace BK568 := q_ (bb_ BK568.out hb)
        replace BK570 := q_ (bb_ BK570.out hb)
        replace HB := q_ (below_step (b2_ HB.out GE568.out GE570.out) hb)
        (try clear hb)
        (try clear hb2)
        (try clear hk)
        (try clear hi)
        refine hK.out _ _ ⟨(blk_cell BK570.out 0).trans rfl, (blk_cell BK570.out 1).trans rfl, (blk_cell BK570.out 2).trans rfl, (blk_cell BK568.out 0).trans rfl, (blk_cell BK568.out 1).trans rfl, (blk_cell BK568.out 2).trans rfl⟩ (fun hHeld => ?_)
        clear hK K
        refine nm_ ?_
        refine pu_ 35 (some 50) (bq_ 36 1) HT_ ?_
        refine pu_ 36 (some 51) (bq_ 37 0) HT_ ?_
        refine done_ (done_of HT_.out (by kernel_rfl)) ?_
        try go_wp2
        go_roundg k1
        case measure => have := HK1.out; omega
        case rel => exact ⟨(wrap64 (x10_1 + 1)), rs_, H', ⟨by have := HK1.out; omega⟩, ⟨by (with_reducible repeat (first | refine blk_drewN ?_ _ | refine blk_drew ?_ | refine blk_alloc ?_ _)); exact BK568.out⟩, ⟨b2_ HB.out GE568.out GE570.out⟩⟩
      rw [if_pos c10] at H
      have c10b0 : decide (0 < x10_1) = true := decide_eq_true c10
      clear c10
      obtain ⟨ji11, hji11⟩ : ∃ j_ : Int, (wrap64 (x10_1 - 1)) = j_ := ⟨_, rfl⟩
      replace H : (if 0 ≤ (ji11) then (if (ji11) < (l1_2.length : Int) then (if ((Op.bytesLess (((rd_T63 l1_2 (ji11)).f0.f0).toList) (((rd_T63 l1_2 x10_1).f0.f0).toList)) = true) then ((impl_CheckPath.f k1 ((rd_T63 l1_2 x10_1).f0.f0) ((rd_T63 l1_2 x10_1).f0.f1) (wrap64 (a1_1 + x10_1)) a1_0 ((rd_T63 l1_2 x10_1).f1) a0).bind fun t573 => (if t573 = true then (impl_itemsOk.l0 k1 a0 l1_2 (l1_2.length : Int) (wrap64 (x10_1 + 1)) a1_0 a1_1 l1_2) else (some false))) else (some false)) else (none)) else (none)) = some r := by first | (rw [hji11] at H; exact H) | (simp only [hji11] at H ⊢; exact H)
      (try rw [hji11] at A8)
      have hji11w : (IntKind.i64.wrap (x10_1 - 1)) = ji11 := (i64_w _).trans hji11
      by_cases c12 : 0 ≤ (ji11)
      rotate_left
      · rw [if_neg c12] at H; exact absurd H (by simp)
      rw [if_pos c12] at H
      have c12b0 : decide (0 ≤ (ji11)) = true := decide_eq_true c12
      clear c12
      by_cases c13 : (ji11) < (l1_2.length : Int)
      rotate_left
      · rw [if_neg c13] at H; exact absurd H (by simp)
      rw [if_pos c13] at H
      have c13b0 : decide ((ji11) < (l1_2.length : Int)) = true := decide_eq_true c13
      clear c13
      by_cases c14 : ((Op.bytesLess (((rd_T63 l1_2 (ji11)).f0.f0).toList) (((rd_T63 l1_2 x10_1).f0.f0).toList)) = true)
      rotate_left
      · rw [if_neg c14] at H
        have c14b0 : (Op.bytesLess (((rd_T63 l1_2 (ji11)).f0.f0).toList) (((rd_T63 l1_2 x10_1).f0.f0).toList)) = false := by simpa using c14
        clear c14
        obtain rfl := Option.some.inj H
        have p569 : 0 ≤ (x10_1 : Int) := od_
        have q569 : x10_1 < (l1_2.length : Int) := od_
        obtain ⟨ad569, A569_2, c569_2, e569, hx569_0, hx569_1, hx569_2, hl569_2, hi569_2⟩ := at_T63 HR1_2.out x10_1 p569 q569
        cases e569
        replace hx569_0 := (HB.out.cell (World.block_lt_of_cell? w _ hx569_0)).trans hx569_0
        replace hx569_1 := (HB.out.cell (World.block_lt_of_cell? w _ hx569_1)).trans hx569_1
        replace hx569_2 := (HB.out.cell (World.block_lt_of_cell? w _ hx569_2)).trans hx569_2
        have HR569_2 := Aside0.mk hi569_2
        have HC569_2 := Aside0.mk hl569_2
        clear hi569_2 hl569_2
        replace p569 := eq_true p569
        replace q569 := eq_true q569
        try go_wp2_with (first | ((with_reducible refine gate_dst (N := 6) rfl ?_); refine box_event rfl (N := 6) rfl (cs := #[.string (⟨#[]⟩ : ByteArray), .string (⟨#[]⟩ : ByteArray), .slice none 0 0]) (t := 63) hr_ ?_; intro gb570 hg w31 hbox hb; have BK570 := q_ (hbox); have GW570 := q_ ((by rw [hg]; exact (below_size (bs_ HB.out GE568.out)) : w.heap.size ≤ gb570)); have GE570 := q_ ((by rw [hg]; exact (below_size (bs_ HB.out GE568.out)) : w.heap.size ≤ gb570)); replace HB := q_ (below_step (bs_ HB.out GE568.out) hb); have NB568_570 := q_ ((by rw [hg]; exact Nat.ne_of_lt (blk_lt (g := gb568) (o := .cells #[.int .i64 a1_0, .int .i64 a1_1, .slice (some ad569) l1_2.length c1_2] 44 (0, 0)) (bk_ BK568.out)) : gb568 ≠ gb570)); have NB570_568 := q_ ((by rw [hg]; exact Nat.ne_of_gt (blk_lt (g := gb568) (o := .cells #[.int .i64 a1_0, .int .i64 a1_1, .slice (some ad569) l1_2.length c1_2] 44 (0, 0)) (bk_ BK568.out)) : gb570 ≠ gb568)); replace BK568 := q_ (bb_ BK568.out hb); clear hb hbox hg; have hnb32 := NB570_568.out; have hnc32 := NB568_570.out; obtain ⟨hcz33_0, hcz33_1, hcz33_2, hfz33_0, hfz33_1, hfz33_2⟩ := bx3_ BK570.out))
        have n0_ : Aside0 ((((w31.setCell ⟨gb570, 0, none⟩ (.string ((rd_T63 l1_2 x10_1).f0.f0))).setCell ⟨gb570, 1, none⟩ (.string ((rd_T63 l1_2 x10_1).f0.f1))).setCell ⟨gb570, 2, none⟩ (.slice A569_2 ((rd_T63 l1_2 x10_1).f1).length c569_2)).heap[gb568]? = some (.cells #[.int .i64 a1_0, .int .i64 a1_1, .slice (some ad569) l1_2.length c1_2] 44 (0, 0))) := ⟨by (with_reducible repeat (first | refine blk_drewN ?_ _ | refine blk_drew ?_ | refine blk_alloc ?_ _)); refine blk_far ?_ NB568_570.out _; (with_reducible repeat (first | refine blk_drewN ?_ _ | refine blk_drew ?_ | refine blk_alloc ?_ _)); refine blk_far ?_ NB568_570.out _; (with_reducible repeat (first | refine blk_drewN ?_ _ | refine blk_drew ?_ | refine blk_alloc ?_ _)); refine blk_far ?_ NB568_570.out _; (with_reducible repeat (first | refine blk_drewN ?_ _ | refine blk_drew ?_ | refine blk_alloc ?_ _)); exact BK568.out⟩
        have n1_ : Aside0 ((((w31.setCell ⟨gb570, 0, none⟩ (.string ((rd_T63 l1_2 x10_1).f0.f0))).setCell ⟨gb570, 1, none⟩ (.string ((rd_T63 l1_2 x10_1).f0.f1))).setCell ⟨gb570, 2, none⟩ (.slice A569_2 ((rd_T63 l1_2 x10_1).f1).length c569_2)).heap[gb570]? = some (.cells #[.string ((rd_T63 l1_2 x10_1).f0.f0), .string ((rd_T63 l1_2 x10_1).f0.f1), .slice A569_2 ((rd_T63 l1_2 x10_1).f1).length c569_2] 63 (0, 0))) := ⟨by (with_reducible repeat (first | refine blk_drewN ?_ _ | refine blk_drew ?_ | refine blk_alloc ?_ _)); refine blk_put (cs := #[.string ((rd_T63 l1_2 x10_1).f0.f0), .string ((rd_T63 l1_2 x10_1).f0.f1), .slice none 0 0]) ?_ 2 _ rfl; (with_reducible repeat (first | refine blk_drewN ?_ _ | refine blk_drew ?_ | refine blk_alloc ?_ _)); refine blk_put (cs := #[.string ((rd_T63 l1_2 x10_1).f0.f0), .string (⟨#[]⟩ : ByteArray), .slice none 0 0]) ?_ 1 _ rfl; (with_reducible repeat (first | refine blk_drewN ?_ _ | refine blk_drew ?_ | refine blk_alloc ?_ _)); refine blk_put (cs := #[.string (⟨#[]⟩ : ByteArray), .string (⟨#[]⟩ : ByteArray), .slice none 0 0]) ?_ 0 _ rfl; (with_reducible repeat (first | refine blk_drewN ?_ _ | refine blk_drew ?_ | refine blk_alloc ?_ _)); exact BK570.out⟩
        have n2_ : Aside0 (Below w.heap.size w (((w31.setCell ⟨gb570, 0, none⟩ (.string ((rd_T63 l1_2 x10_1).f0.f0))).setCell ⟨gb570, 1, none⟩ (.string ((rd_T63 l1_2 x10_1).f0.f1))).setCell ⟨gb570, 2, none⟩ (.slice A569_2 ((rd_T63 l1_2 x10_1).f1).length c569_2))) := ⟨b2_ HB.out GE568.out GE570.out⟩
        (try clear BK568)
        (try clear BK570)
        (try clear HB)
        generalize (((w31.setCell ⟨gb570, 0, none⟩ (.string ((rd_T63 l1_2 x10_1).f0.f0))).setCell ⟨gb570, 1, none⟩ (.string ((rd_T63 l1_2 x10_1).f0.f1))).setCell ⟨gb570, 2, none⟩ (.slice A569_2 ((rd_T63 l1_2 x10_1).f1).length c569_2)) = w34 at n0_ n1_ n2_ ⊢
        have BK568 := n0_
        have BK570 := n1_
        have HB := n2_
        clear n0_ n1_ n2_
        replace BK568 := q_ (blk_drew BK568.out)
        replace BK570 := q_ (blk_drew BK570.out)
        replace HB := q_ (below_drew1 HB.out)
        have p572 : 0 ≤ ((ji11) : Int) := od_
        have q572 : (ji11) < (l1_2.length : Int) := od_
        obtain ⟨ad572, A572_2, c572_2, e572, hx572_0, hx572_1, hx572_2, hl572_2, hi572_2⟩ := at_T63 HR1_2.out (ji11) p572 q572
        have hw572_2 := hx572_2
        have hw572_1 := hx572_1
        have hw572_0 := hx572_0
        obtain rfl : ad569 = ad572 := (by injection e572)
        replace hx572_0 := (HB.out.cell (World.block_lt_of_cell? w _ hx572_0)).trans hx572_0
        replace hx572_1 := (HB.out.cell (World.block_lt_of_cell? w _ hx572_1)).trans hx572_1
        replace hx572_2 := (HB.out.cell (World.block_lt_of_cell? w _ hx572_2)).trans hx572_2
        have HR572_2 := Aside0.mk hi572_2
        have HC572_2 := Aside0.mk hl572_2
        clear hi572_2 hl572_2
        replace p572 := eq_true p572
        replace q572 := eq_true q572
        refine start_ (n := 37) (S := fun w' => w'.cell? ⟨gb570, 0, none⟩ = some (.string ((rd_T63 l1_2 x10_1).f0.f0)) ∧ w'.cell? ⟨gb570, 1, none⟩ = some (.string ((rd_T63 l1_2 x10_1).f0.f1)) ∧ w'.cell? ⟨gb570, 2, none⟩ = some (.slice A569_2 ((rd_T63 l1_2 x10_1).f1).length c569_2) ∧ w'.cell? ⟨gb568, 0, none⟩ = some (.int .i64 a1_0) ∧ w'.cell? ⟨gb568, 1, none⟩ = some (.int .i64 a1_1) ∧ w'.cell? ⟨gb568, 2, none⟩ = some (.slice (some ad569) l1_2.length c1_2) ∧ w'.cell? (ad569.add (((ji11)).toNat * 3)) = some (.string ((rd_T63 l1_2 (ji11)).f0.f0)) ∧ w'.cell? ⟨(ad569.add (((ji11)).toNat * 3)).block, (ad569.add (((ji11)).toNat * 3)).off + 1, none⟩ = some (.string ((rd_T63 l1_2 (ji11)).f0.f1)) ∧ w'.cell? ⟨(ad569.add (((ji11)).toNat * 3)).block, (ad569.add (((ji11)).toNat * 3)).off + 2, none⟩ = some (.slice A572_2 ((rd_T63 l1_2 (ji11)).f1).length c572_2)) (ds := []) (bq_ 0 37) (by kernel_rfl) rfl rfl ⟨(blk_cell BK570.out 0).trans rfl, (blk_cell BK570.out 1).trans rfl, (blk_cell BK570.out 2).trans rfl, (blk_cell BK568.out 0).trans rfl, (blk_cell BK568.out 1).trans rfl, (blk_cell BK568.out 2).trans rfl, ((HB.out.cell (World.block_lt_of_cell? w _ hw572_0)).trans hw572_0), ((HB.out.cell (World.block_lt_of_cell? w _ hw572_1)).trans hw572_1), ((HB.out.cell (World.block_lt_of_cell? w _ hw572_2)).trans hw572_2)⟩ (fun hHeld => ?_); refine with_tabW impl_itemsOk.tab4 impl_itemsOk.bits4 (fun HT_ HW_ => ?_)
        generalize w34.drew = w35 at BK568 BK570 HB HR572_2 hx572_0 hx572_1 hx572_2 hHeld ⊢
        refine pu_ 0 (some 15) (bq_ 1 36) HT_ ?_
        refine take_ (i := 1) (N := some 16) (v := ?_) (a' := ?_) (bq_ 2 35) rfl rfl (take_ofW HT_.out HW_.out (by kernel_rfl)) (fun _ _ _ h => h) (Or.inl ⟨by rfl, ?_⟩) hHeld ?_ ?_
        rotate_left
        · rintro w' ⟨s0, s1, s2, s3, s4, s5, s6, s7, s8⟩
          go_simp
          with_reducible rfl
        rotate_left
        · simp only [Act.put, sa_, sz_, ss_, i64_w, i32_w]; rfl
        refine on_ 2 (some 17) (bq_ 3 34) HT_ (fun K hK => ?_)
        refine goes_ Try.func98 (by kernel_rfl) rfl #[.agg #[.string ((rd_T63 l1_2 x10_1).f0.f0), .string ((rd_T63 l1_2 x10_1).f0.f1)]] (by rfl) rfl rfl al_ ?_
        with_reducible refine (impl_PairOk.calls k1 ((rd_T63 l1_2 x10_1).f0.f0) ((rd_T63 l1_2 x10_1).f0.f1) true _ A8.out).mono ?_
        rintro e w36 ⟨rfl, hb⟩
        refine ⟨_, rfl, ?_⟩
        replace BK568 := q_ (bb_ BK568.out hb)
        replace BK570 := q_ (bb_ BK570.out hb)
        replace HB := q_ (below_step (b2_ HB.out GE568.out GE570.out) hb)
        (try clear hb)
        (try clear hb2)
        (try clear hk)
        (try clear hi)
        refine hK.out _ _ ⟨(blk_cell BK570.out 0).trans rfl, (blk_cell BK570.out 1).trans rfl, (blk_cell BK570.out 2).trans rfl, (blk_cell BK568.out 0).trans rfl, (blk_cell BK568.out 1).trans rfl, (blk_cell BK568.out 2).trans rfl, ((HB.out.cell (World.block_lt_of_cell? w _ hw572_0)).trans hw572_0), ((HB.out.cell (World.block_lt_of_cell? w _ hw572_1)).trans hw572_1), ((HB.out.cell (World.block_lt_of_cell? w _ hw572_2)).trans hw572_2)⟩ (fun hHeld => ?_)
        clear hK K
        refine nm_ ?_
        refine pu_ 3 (some 18) (bq_ 4 33) HT_ ?_
        refine pu_ 4 (some 19) (bq_ 5 32) HT_ ?_
        refine pu_ 5 (some 20) (bq_ 6 31) HT_ ?_
        refine pu_ 6 (some 21) (bq_ 7 30) HT_ ?_
        refine pu_ 7 (some 22) (bq_ 8 29) HT_ ?_
        refine pu_ 8 (some 23) (bq_ 9 28) HT_ ?_
        refine pu_ 9 (some 24) (bq_ 10 27) HT_ ?_
        refine pu_ 11 (some 26) (br_ [10, 1, 1, 25]) HT_ ?_
        refine pu_ 13 (some 28) (br_ [10, 1, 1, 1, 1, 23]) HT_ ?_
        refine pu_ 14 (some 29) (br_ [10, 1, 1, 1, 2, 22]) HT_ ?_
        refine take_ (i := 10) (N := some 25) (v := ?_) (a' := ?_) (br_ [12, 1, 2, 22]) rfl rfl (take_ofW HT_.out HW_.out (by kernel_rfl)) (fun _ _ _ h => h) (Or.inl ⟨by rfl, ?_⟩) hHeld ?_ ?_
        rotate_left
        · rintro w' ⟨s0, s1, s2, s3, s4, s5, s6, s7, s8⟩
          go_simp
          with_reducible rfl
        rotate_left
        · simp only [Act.put, sa_, sz_, ss_, i64_w, i32_w]; rfl
        refine take_ (i := 12) (N := some 27) (v := ?_) (a' := ?_) (bq_ 15 22) rfl rfl (take_ofW HT_.out HW_.out (by kernel_rfl)) (fun _ _ _ h => h) (Or.inl ⟨by rfl, ?_⟩) hHeld ?_ ?_
        rotate_left
        · rintro w' ⟨s0, s1, s2, s3, s4, s5, s6, s7, s8⟩
          go_simp
          with_reducible rfl
        rotate_left
        · simp only [Act.put, sa_, sz_, ss_, i64_w, i32_w]; rfl
        refine pu_ 15 (some 30) (bq_ 16 21) HT_ ?_
        refine pu_ 16 (some 31) (bq_ 17 20) HT_ ?_
        refine pu_ 17 (some 32) (bq_ 18 19) HT_ ?_
        refine take_ (i := 18) (N := some 33) (v := ?_) (a' := ?_) (bq_ 19 18) rfl rfl (take_ofW HT_.out HW_.out (by kernel_rfl)) (fun _ _ _ h => h) (Or.inl ⟨by rfl, ?_⟩) hHeld ?_ ?_
        rotate_left
        · rintro w' ⟨s0, s1, s2, s3, s4, s5, s6, s7, s8⟩
          go_simp
          with_reducible rfl
        rotate_left
        · simp only [Act.put, sa_, sz_, ss_, i64_w, i32_w]; rfl
        refine pu_ 19 (some 34) (bq_ 20 17) HT_ ?_
        refine pu_ 20 (some 35) (bq_ 21 16) HT_ ?_
        refine pu_ 21 (some 36) (bq_ 22 15) HT_ ?_
        refine pu_ 22 (some 37) (bq_ 23 14) HT_ ?_
        refine pure_ (i := 23) (N := some 38) (v := undef) (a' := ?_) (bq_ 24 13) rfl rfl (any_of HT_.out (by kernel_rfl)) (fun _ _ _ h => h) (Or.inr ⟨by rfl, rfl⟩) ?_ ?_
        rotate_left
        · simp only [Act.put, sa_, sz_, ss_, i64_w, i32_w]; rfl
        refine pure_ (i := 24) (N := some 39) (v := undef) (a' := ?_) (bq_ 25 12) rfl rfl (any_of HT_.out (by kernel_rfl)) (fun _ _ _ h => h) (Or.inr ⟨by rfl, rfl⟩) ?_ ?_
        rotate_left
        · simp only [Act.put, sa_, sz_, ss_, i64_w, i32_w]; rfl
        refine pure_ (i := 25) (N := some 40) (v := undef) (a' := ?_) (bq_ 26 11) rfl rfl (any_of HT_.out (by kernel_rfl)) (fun _ _ _ h => h) (Or.inr ⟨by rfl, rfl⟩) ?_ ?_
        rotate_left
        · simp only [Act.put, sa_, sz_, ss_, i64_w, i32_w]; rfl
        refine pure_ (i := 26) (N := some 41) (v := undef) (a' := ?_) (bq_ 27 10) rfl rfl (any_of HT_.out (by kernel_rfl)) (fun _ _ _ h => h) (Or.inr ⟨by rfl, rfl⟩) ?_ ?_
        rotate_left
        · simp only [Act.put, sa_, sz_, ss_, i64_w, i32_w]; rfl
        refine pure_ (i := 27) (N := some 42) (v := undef) (a' := ?_) (bq_ 28 9) rfl rfl (any_of HT_.out (by kernel_rfl)) (fun _ _ _ h => h) (Or.inr ⟨by rfl, rfl⟩) ?_ ?_
        rotate_left
        · simp only [Act.put, sa_, sz_, ss_, i64_w, i32_w]; rfl
        refine pure_ (i := 28) (N := some 43) (v := undef) (a' := ?_) (bq_ 29 8) rfl rfl (any_of HT_.out (by kernel_rfl)) (fun _ _ _ h => h) (Or.inr ⟨by rfl, rfl⟩) ?_ ?_
        rotate_left
        · simp only [Act.put, sa_, sz_, ss_, i64_w, i32_w]; rfl
        refine pure_ (i := 29) (N := some 44) (v := undef) (a' := ?_) (bq_ 30 7) rfl rfl (any_of HT_.out (by kernel_rfl)) (fun _ _ _ h => h) (Or.inr ⟨by rfl, rfl⟩) ?_ ?_
        rotate_left
        · simp only [Act.put, sa_, sz_, ss_, i64_w, i32_w]; rfl
        refine pure_ (i := 30) (N := some 45) (v := undef) (a' := ?_) (bq_ 31 6) rfl rfl (any_of HT_.out (by kernel_rfl)) (fun _ _ _ h => h) (Or.inr ⟨by rfl, rfl⟩) ?_ ?_
        rotate_left
        · simp only [Act.put, sa_, sz_, ss_, i64_w, i32_w]; rfl
        refine pure_ (i := 31) (N := some 46) (v := undef) (a' := ?_) (bq_ 32 5) rfl rfl (any_of HT_.out (by kernel_rfl)) (fun _ _ _ h => h) (Or.inr ⟨by rfl, rfl⟩) ?_ ?_
        rotate_left
        · simp only [Act.put, sa_, sz_, ss_, i64_w, i32_w]; rfl
        refine pure_ (i := 32) (N := some 47) (v := undef) (a' := ?_) (bq_ 33 4) rfl rfl (any_of HT_.out (by kernel_rfl)) (fun _ _ _ h => h) (Or.inr ⟨by rfl, rfl⟩) ?_ ?_
        rotate_left
        · simp only [Act.put, sa_, sz_, ss_, i64_w, i32_w]; rfl
        refine pure_ (i := 33) (N := some 48) (v := undef) (a' := ?_) (bq_ 34 3) rfl rfl (any_of HT_.out (by kernel_rfl)) (fun _ _ _ h => h) (Or.inr ⟨by rfl, rfl⟩) ?_ ?_
        rotate_left
        · simp only [Act.put, sa_, sz_, ss_, i64_w, i32_w]; rfl
        refine pure_ (i := 34) (N := some 49) (v := undef) (a' := ?_) (bq_ 35 2) rfl rfl (any_of HT_.out (by kernel_rfl)) (fun _ _ _ h => h) (Or.inr ⟨by rfl, rfl⟩) ?_ ?_
        rotate_left
        · simp only [Act.put, sa_, sz_, ss_, i64_w, i32_w]; rfl
        refine pure_ (i := 35) (N := some 50) (v := undef) (a' := ?_) (bq_ 36 1) rfl rfl (any_of HT_.out (by kernel_rfl)) (fun _ _ _ h => h) (Or.inr ⟨by rfl, rfl⟩) ?_ ?_
        rotate_left
        · simp only [Act.put, sa_, sz_, ss_, i64_w, i32_w]; rfl
        refine pu_ 36 (some 51) (bq_ 37 0) HT_ ?_
        refine done_ (done_of HT_.out (by kernel_rfl)) ?_
        try go_wp2
        go_ret
        exact ⟨by first | rfl | (simp [errW_none, errW_some] <;> rfl) | (simp only [← hji11]; first | rfl | (simp [errW_none, errW_some] <;> rfl)) | (simp [*, errW_none, errW_some] <;> rfl), b2_ HB.out GE568.out GE570.out⟩
      rw [if_pos c14] at H
      have c14b0 : (Op.bytesLess (((rd_T63 l1_2 (ji11)).f0.f0).toList) (((rd_T63 l1_2 x10_1).f0.f0).toList)) = true := c14
      clear c14
      replace H := Option.bind_eq_some_iff.mp H
      obtain ⟨t573, A150, H⟩ := H
      have A15 := Aside0.mk A150
      clear A150
      by_cases c16 : t573 = true
      rotate_left
      · replace c16 := Bool.eq_false_iff.mpr c16
        subst c16
        rw [if_neg (show ¬ (false = true) by decide)] at H
        obtain rfl := Option.some.inj H
        have p569 : 0 ≤ (x10_1 : Int) := od_
        have q569 : x10_1 < (l1_2.length : Int) := od_
        obtain ⟨ad569, A569_2, c569_2, e569, hx569_0, hx569_1, hx569_2, hl569_2, hi569_2⟩ := at_T63 HR1_2.out x10_1 p569 q569
        cases e569
        replace hx569_0 := (HB.out.cell (World.block_lt_of_cell? w _ hx569_0)).trans hx569_0
        replace hx569_1 := (HB.out.cell (World.block_lt_of_cell? w _ hx569_1)).trans hx569_1
        replace hx569_2 := (HB.out.cell (World.block_lt_of_cell? w _ hx569_2)).trans hx569_2
        have HR569_2 := Aside0.mk hi569_2
        have HC569_2 := Aside0.mk hl569_2
        clear hi569_2 hl569_2
        replace p569 := eq_true p569
        replace q569 := eq_true q569
        try go_wp2_with (first | ((with_reducible refine gate_dst (N := 6) rfl ?_); refine box_event rfl (N := 6) rfl (cs := #[.string (⟨#[]⟩ : ByteArray), .string (⟨#[]⟩ : ByteArray), .slice none 0 0]) (t := 63) hr_ ?_; intro gb570 hg w24 hbox hb; have BK570 := q_ (hbox); have GW570 := q_ ((by rw [hg]; exact (below_size (bs_ HB.out GE568.out)) : w.heap.size ≤ gb570)); have GE570 := q_ ((by rw [hg]; exact (below_size (bs_ HB.out GE568.out)) : w.heap.size ≤ gb570)); replace HB := q_ (below_step (bs_ HB.out GE568.out) hb); have NB568_570 := q_ ((by rw [hg]; exact Nat.ne_of_lt (blk_lt (g := gb568) (o := .cells #[.int .i64 a1_0, .int .i64 a1_1, .slice (some ad569) l1_2.length c1_2] 44 (0, 0)) (bk_ BK568.out)) : gb568 ≠ gb570)); have NB570_568 := q_ ((by rw [hg]; exact Nat.ne_of_gt (blk_lt (g := gb568) (o := .cells #[.int .i64 a1_0, .int .i64 a1_1, .slice (some ad569) l1_2.length c1_2] 44 (0, 0)) (bk_ BK568.out)) : gb570 ≠ gb568)); replace BK568 := q_ (bb_ BK568.out hb); clear hb hbox hg; have hnb25 := NB570_568.out; have hnc25 := NB568_570.out; obtain ⟨hcz26_0, hcz26_1, hcz26_2, hfz26_0, hfz26_1, hfz26_2⟩ := bx3_ BK570.out))
        have n0_ : Aside0 ((((w24.setCell ⟨gb570, 0, none⟩ (.string ((rd_T63 l1_2 x10_1).f0.f0))).setCell ⟨gb570, 1, none⟩ (.string ((rd_T63 l1_2 x10_1).f0.f1))).setCell ⟨gb570, 2, none⟩ (.slice A569_2 ((rd_T63 l1_2 x10_1).f1).length c569_2)).heap[gb568]? = some (.cells #[.int .i64 a1_0, .int .i64 a1_1, .slice (some ad569) l1_2.length c1_2] 44 (0, 0))) := ⟨by (with_reducible repeat (first | refine blk_drewN ?_ _ | refine blk_drew ?_ | refine blk_alloc ?_ _)); refine blk_far ?_ NB568_570.out _; (with_reducible repeat (first | refine blk_drewN ?_ _ | refine blk_drew ?_ | refine blk_alloc ?_ _)); refine blk_far ?_ NB568_570.out _; (with_reducible repeat (first | refine blk_drewN ?_ _ | refine blk_drew ?_ | refine blk_alloc ?_ _)); refine blk_far ?_ NB568_570.out _; (with_reducible repeat (first | refine blk_drewN ?_ _ | refine blk_drew ?_ | refine blk_alloc ?_ _)); exact BK568.out⟩
        have n1_ : Aside0 ((((w24.setCell ⟨gb570, 0, none⟩ (.string ((rd_T63 l1_2 x10_1).f0.f0))).setCell ⟨gb570, 1, none⟩ (.string ((rd_T63 l1_2 x10_1).f0.f1))).setCell ⟨gb570, 2, none⟩ (.slice A569_2 ((rd_T63 l1_2 x10_1).f1).length c569_2)).heap[gb570]? = some (.cells #[.string ((rd_T63 l1_2 x10_1).f0.f0), .string ((rd_T63 l1_2 x10_1).f0.f1), .slice A569_2 ((rd_T63 l1_2 x10_1).f1).length c569_2] 63 (0, 0))) := ⟨by (with_reducible repeat (first | refine blk_drewN ?_ _ | refine blk_drew ?_ | refine blk_alloc ?_ _)); refine blk_put (cs := #[.string ((rd_T63 l1_2 x10_1).f0.f0), .string ((rd_T63 l1_2 x10_1).f0.f1), .slice none 0 0]) ?_ 2 _ rfl; (with_reducible repeat (first | refine blk_drewN ?_ _ | refine blk_drew ?_ | refine blk_alloc ?_ _)); refine blk_put (cs := #[.string ((rd_T63 l1_2 x10_1).f0.f0), .string (⟨#[]⟩ : ByteArray), .slice none 0 0]) ?_ 1 _ rfl; (with_reducible repeat (first | refine blk_drewN ?_ _ | refine blk_drew ?_ | refine blk_alloc ?_ _)); refine blk_put (cs := #[.string (⟨#[]⟩ : ByteArray), .string (⟨#[]⟩ : ByteArray), .slice none 0 0]) ?_ 0 _ rfl; (with_reducible repeat (first | refine blk_drewN ?_ _ | refine blk_drew ?_ | refine blk_alloc ?_ _)); exact BK570.out⟩
        have n2_ : Aside0 (Below w.heap.size w (((w24.setCell ⟨gb570, 0, none⟩ (.string ((rd_T63 l1_2 x10_1).f0.f0))).setCell ⟨gb570, 1, none⟩ (.string ((rd_T63 l1_2 x10_1).f0.f1))).setCell ⟨gb570, 2, none⟩ (.slice A569_2 ((rd_T63 l1_2 x10_1).f1).length c569_2))) := ⟨b2_ HB.out GE568.out GE570.out⟩
        (try clear BK568)
        (try clear BK570)
        (try clear HB)
        generalize (((w24.setCell ⟨gb570, 0, none⟩ (.string ((rd_T63 l1_2 x10_1).f0.f0))).setCell ⟨gb570, 1, none⟩ (.string ((rd_T63 l1_2 x10_1).f0.f1))).setCell ⟨gb570, 2, none⟩ (.slice A569_2 ((rd_T63 l1_2 x10_1).f1).length c569_2)) = w27 at n0_ n1_ n2_ ⊢
        have BK568 := n0_
        have BK570 := n1_
        have HB := n2_
        clear n0_ n1_ n2_
        replace BK568 := q_ (blk_drew BK568.out)
        replace BK570 := q_ (blk_drew BK570.out)
        replace HB := q_ (below_drew1 HB.out)
        have p572 : 0 ≤ ((ji11) : Int) := od_
        have q572 : (ji11) < (l1_2.length : Int) := od_
        obtain ⟨ad572, A572_2, c572_2, e572, hx572_0, hx572_1, hx572_2, hl572_2, hi572_2⟩ := at_T63 HR1_2.out (ji11) p572 q572
        have hw572_2 := hx572_2
        have hw572_1 := hx572_1
        have hw572_0 := hx572_0
        obtain rfl : ad569 = ad572 := (by injection e572)
        replace hx572_0 := (HB.out.cell (World.block_lt_of_cell? w _ hx572_0)).trans hx572_0
        replace hx572_1 := (HB.out.cell (World.block_lt_of_cell? w _ hx572_1)).trans hx572_1
        replace hx572_2 := (HB.out.cell (World.block_lt_of_cell? w _ hx572_2)).trans hx572_2
        have HR572_2 := Aside0.mk hi572_2
        have HC572_2 := Aside0.mk hl572_2
        clear hi572_2 hl572_2
        replace p572 := eq_true p572
        replace q572 := eq_true q572
        refine start_ (n := 37) (S := fun w' => w'.cell? ⟨gb570, 0, none⟩ = some (.string ((rd_T63 l1_2 x10_1).f0.f0)) ∧ w'.cell? ⟨gb570, 1, none⟩ = some (.string ((rd_T63 l1_2 x10_1).f0.f1)) ∧ w'.cell? ⟨gb570, 2, none⟩ = some (.slice A569_2 ((rd_T63 l1_2 x10_1).f1).length c569_2) ∧ w'.cell? ⟨gb568, 0, none⟩ = some (.int .i64 a1_0) ∧ w'.cell? ⟨gb568, 1, none⟩ = some (.int .i64 a1_1) ∧ w'.cell? ⟨gb568, 2, none⟩ = some (.slice (some ad569) l1_2.length c1_2) ∧ w'.cell? (ad569.add (((ji11)).toNat * 3)) = some (.string ((rd_T63 l1_2 (ji11)).f0.f0)) ∧ w'.cell? ⟨(ad569.add (((ji11)).toNat * 3)).block, (ad569.add (((ji11)).toNat * 3)).off + 1, none⟩ = some (.string ((rd_T63 l1_2 (ji11)).f0.f1)) ∧ w'.cell? ⟨(ad569.add (((ji11)).toNat * 3)).block, (ad569.add (((ji11)).toNat * 3)).off + 2, none⟩ = some (.slice A572_2 ((rd_T63 l1_2 (ji11)).f1).length c572_2)) (ds := []) (bq_ 0 37) (by kernel_rfl) rfl rfl ⟨(blk_cell BK570.out 0).trans rfl, (blk_cell BK570.out 1).trans rfl, (blk_cell BK570.out 2).trans rfl, (blk_cell BK568.out 0).trans rfl, (blk_cell BK568.out 1).trans rfl, (blk_cell BK568.out 2).trans rfl, ((HB.out.cell (World.block_lt_of_cell? w _ hw572_0)).trans hw572_0), ((HB.out.cell (World.block_lt_of_cell? w _ hw572_1)).trans hw572_1), ((HB.out.cell (World.block_lt_of_cell? w _ hw572_2)).trans hw572_2)⟩ (fun hHeld => ?_); refine with_tabW impl_itemsOk.tab4 impl_itemsOk.bits4 (fun HT_ HW_ => ?_)
        generalize w27.drew = w28 at BK568 BK570 HB HR572_2 hx572_0 hx572_1 hx572_2 hHeld ⊢
        refine pu_ 0 (some 15) (bq_ 1 36) HT_ ?_
        refine take_ (i := 1) (N := some 16) (v := ?_) (a' := ?_) (bq_ 2 35) rfl rfl (take_ofW HT_.out HW_.out (by kernel_rfl)) (fun _ _ _ h => h) (Or.inl ⟨by rfl, ?_⟩) hHeld ?_ ?_
        rotate_left
        · rintro w' ⟨s0, s1, s2, s3, s4, s5, s6, s7, s8⟩
          go_simp
          with_reducible rfl
        rotate_left
        · simp only [Act.put, sa_, sz_, ss_, i64_w, i32_w]; rfl
        refine on_ 2 (some 17) (bq_ 3 34) HT_ (fun K hK => ?_)
        refine goes_ Try.func98 (by kernel_rfl) rfl #[.agg #[.string ((rd_T63 l1_2 x10_1).f0.f0), .string ((rd_T63 l1_2 x10_1).f0.f1)]] (by rfl) rfl rfl al_ ?_
        with_reducible refine (impl_PairOk.calls k1 ((rd_T63 l1_2 x10_1).f0.f0) ((rd_T63 l1_2 x10_1).f0.f1) true _ A8.out).mono ?_
        rintro e w29 ⟨rfl, hb⟩
        refine ⟨_, rfl, ?_⟩
        replace BK568 := q_ (bb_ BK568.out hb)
        replace BK570 := q_ (bb_ BK570.out hb)
        replace HB := q_ (below_step (b2_ HB.out GE568.out GE570.out) hb)
        (try clear hb)
        (try clear hb2)
        (try clear hk)
        (try clear hi)
        refine hK.out _ _ ⟨(blk_cell BK570.out 0).trans rfl, (blk_cell BK570.out 1).trans rfl, (blk_cell BK570.out 2).trans rfl, (blk_cell BK568.out 0).trans rfl, (blk_cell BK568.out 1).trans rfl, (blk_cell BK568.out 2).trans rfl, ((HB.out.cell (World.block_lt_of_cell? w _ hw572_0)).trans hw572_0), ((HB.out.cell (World.block_lt_of_cell? w _ hw572_1)).trans hw572_1), ((HB.out.cell (World.block_lt_of_cell? w _ hw572_2)).trans hw572_2)⟩ (fun hHeld => ?_)
        clear hK K
        refine nm_ ?_
        refine pu_ 3 (some 18) (bq_ 4 33) HT_ ?_
        refine pu_ 4 (some 19) (bq_ 5 32) HT_ ?_
        refine pu_ 5 (some 20) (bq_ 6 31) HT_ ?_
        refine pu_ 6 (some 21) (bq_ 7 30) HT_ ?_
        refine pu_ 7 (some 22) (bq_ 8 29) HT_ ?_
        refine pu_ 8 (some 23) (bq_ 9 28) HT_ ?_
        refine pu_ 9 (some 24) (bq_ 10 27) HT_ ?_
        refine pu_ 11 (some 26) (br_ [10, 1, 1, 25]) HT_ ?_
        refine pu_ 13 (some 28) (br_ [10, 1, 1, 1, 1, 23]) HT_ ?_
        refine pu_ 14 (some 29) (br_ [10, 1, 1, 1, 2, 22]) HT_ ?_
        refine take_ (i := 10) (N := some 25) (v := ?_) (a' := ?_) (br_ [12, 1, 2, 22]) rfl rfl (take_ofW HT_.out HW_.out (by kernel_rfl)) (fun _ _ _ h => h) (Or.inl ⟨by rfl, ?_⟩) hHeld ?_ ?_
        rotate_left
        · rintro w' ⟨s0, s1, s2, s3, s4, s5, s6, s7, s8⟩
          go_simp
          with_reducible rfl
        rotate_left
        · simp only [Act.put, sa_, sz_, ss_, i64_w, i32_w]; rfl
        refine take_ (i := 12) (N := some 27) (v := ?_) (a' := ?_) (bq_ 15 22) rfl rfl (take_ofW HT_.out HW_.out (by kernel_rfl)) (fun _ _ _ h => h) (Or.inl ⟨by rfl, ?_⟩) hHeld ?_ ?_
        rotate_left
        · rintro w' ⟨s0, s1, s2, s3, s4, s5, s6, s7, s8⟩
          go_simp
          with_reducible rfl
        rotate_left
        · simp only [Act.put, sa_, sz_, ss_, i64_w, i32_w]; rfl
        refine pu_ 15 (some 30) (bq_ 16 21) HT_ ?_
        refine pu_ 16 (some 31) (bq_ 17 20) HT_ ?_
        refine pu_ 17 (some 32) (bq_ 18 19) HT_ ?_
        refine take_ (i := 18) (N := some 33) (v := ?_) (a' := ?_) (bq_ 19 18) rfl rfl (take_ofW HT_.out HW_.out (by kernel_rfl)) (fun _ _ _ h => h) (Or.inl ⟨by rfl, ?_⟩) hHeld ?_ ?_
        rotate_left
        · rintro w' ⟨s0, s1, s2, s3, s4, s5, s6, s7, s8⟩
          go_simp
          with_reducible rfl
        rotate_left
        · simp only [Act.put, sa_, sz_, ss_, i64_w, i32_w]; rfl
        refine pu_ 19 (some 34) (bq_ 20 17) HT_ ?_
        refine pu_ 20 (some 35) (bq_ 21 16) HT_ ?_
        refine pu_ 21 (some 36) (bq_ 22 15) HT_ ?_
        refine pu_ 22 (some 37) (bq_ 23 14) HT_ ?_
        refine pu_ 23 (some 38) (bq_ 24 13) HT_ ?_
        refine pu_ 25 (some 40) (br_ [24, 1, 1, 11]) HT_ ?_
        refine pu_ 27 (some 42) (br_ [24, 1, 1, 1, 1, 9]) HT_ ?_
        refine pu_ 29 (some 44) (br_ [24, 1, 1, 1, 1, 1, 1, 7]) HT_ ?_
        refine pu_ 31 (some 46) (br_ [24, 1, 1, 1, 1, 1, 1, 1, 1, 5]) HT_ ?_
        refine pu_ 33 (some 48) (br_ [24, 1, 1, 1, 1, 1, 1, 1, 1, 1, 1, 3]) HT_ ?_
        refine take_ (i := 24) (N := some 39) (v := ?_) (a' := ?_) (br_ [26, 1, 1, 1, 1, 1, 1, 1, 1, 3]) rfl rfl (take_ofW HT_.out HW_.out (by kernel_rfl)) (fun _ _ _ h => h) (Or.inl ⟨by rfl, ?_⟩) hHeld ?_ ?_
        rotate_left
        · rintro w' ⟨s0, s1, s2, s3, s4, s5, s6, s7, s8⟩
          go_simp
          with_reducible rfl
        rotate_left
        · simp only [Act.put, sa_, sz_, ss_, i64_w, i32_w]; rfl
        refine take_ (i := 26) (N := some 41) (v := ?_) (a' := ?_) (br_ [28, 1, 1, 1, 1, 1, 1, 3]) rfl rfl (take_ofW HT_.out HW_.out (by kernel_rfl)) (fun _ _ _ h => h) (Or.inl ⟨by rfl, ?_⟩) hHeld ?_ ?_
        rotate_left
        · rintro w' ⟨s0, s1, s2, s3, s4, s5, s6, s7, s8⟩
          go_simp
          with_reducible rfl
        rotate_left
        · simp only [Act.put, sa_, sz_, ss_, i64_w, i32_w]; rfl
        refine pu_ 28 (some 43) (br_ [30, 1, 1, 1, 1, 3]) HT_ ?_
        refine take_ (i := 30) (N := some 45) (v := ?_) (a' := ?_) (br_ [32, 1, 1, 3]) rfl rfl (take_ofW HT_.out HW_.out (by kernel_rfl)) (fun _ _ _ h => h) (Or.inl ⟨by rfl, ?_⟩) hHeld ?_ ?_
        rotate_left
        · rintro w' ⟨s0, s1, s2, s3, s4, s5, s6, s7, s8⟩
          go_simp
          with_reducible rfl
        rotate_left
        · simp only [Act.put, sa_, sz_, ss_, i64_w, i32_w]; rfl
        refine take_ (i := 32) (N := some 47) (v := ?_) (a' := ?_) (bq_ 34 3) rfl rfl (take_ofW HT_.out HW_.out (by kernel_rfl)) (fun _ _ _ h => h) (Or.inl ⟨by rfl, ?_⟩) hHeld ?_ ?_
        rotate_left
        · rintro w' ⟨s0, s1, s2, s3, s4, s5, s6, s7, s8⟩
          go_simp
          with_reducible rfl
        rotate_left
        · simp only [Act.put, sa_, sz_, ss_, i64_w, i32_w]; rfl
        refine on_ 34 (some 49) (bq_ 35 2) HT_ (fun K hK => ?_)
        refine goes_ Try.func15 (by kernel_rfl) rfl #[.agg #[.string ((rd_T63 l1_2 x10_1).f0.f0), .string ((rd_T63 l1_2 x10_1).f0.f1)], .int .i64 (wrap64 (a1_1 + x10_1)), .int .i64 a1_0, .slice A569_2 ((rd_T63 l1_2 x10_1).f1).length c569_2, .string a0] (by rfl) rfl rfl al_ ?_
        with_reducible refine (impl_CheckPath.calls k1 ((rd_T63 l1_2 x10_1).f0.f0) ((rd_T63 l1_2 x10_1).f0.f1) (wrap64 (a1_1 + x10_1)) a1_0 _ _ ((rd_T63 l1_2 x10_1).f1) a0 false _ ?side1 ?side2 A15.out).mono ?_
        (case side1 => exact kc_ (Kd.C_below HR569_2.out HB.out))
        (case side2 => exact HC569_2.out)
        rintro e w30 ⟨rfl, hb⟩
        refine ⟨_, rfl, ?_⟩
        replace BK568 := q_ (bb_ BK568.out hb)
        replace BK570 := q_ (bb_ BK570.out hb)
        replace HB := q_ (below_step (b2_ HB.out GE568.out GE570.out) hb)
        (try clear hb)
        (try clear hb2)
        (try clear hk)
        (try clear hi)
        refine hK.out _ _ ⟨(blk_cell BK570.out 0).trans rfl, (blk_cell BK570.out 1).trans rfl, (blk_cell BK570.out 2).trans rfl, (blk_cell BK568.out 0).trans rfl, (blk_cell BK568.out 1).trans rfl, (blk_cell BK568.out 2).trans rfl, ((HB.out.cell (World.block_lt_of_cell? w _ hw572_0)).trans hw572_0), ((HB.out.cell (World.block_lt_of_cell? w _ hw572_1)).trans hw572_1), ((HB.out.cell (World.block_lt_of_cell? w _ hw572_2)).trans hw572_2)⟩ (fun hHeld => ?_)
        clear hK K
        refine nm_ ?_
        refine pu_ 35 (some 50) (bq_ 36 1) HT_ ?_
        refine pu_ 36 (some 51) (bq_ 37 0) HT_ ?_
        refine done_ (done_of HT_.out (by kernel_rfl)) ?_
        try go_wp2
        go_ret
        exact ⟨by first | rfl | (simp [errW_none, errW_some] <;> rfl) | (simp only [← hji11]; first | rfl | (simp [errW_none, errW_some] <;> rfl)) | (simp [*, errW_none, errW_some] <;> rfl), b2_ HB.out GE568.out GE570.out⟩
      subst c16
      rw [if_pos rfl] at H
      have H' := Aside0.mk H
      clear H
      have p569 : 0 ≤ (x10_1 : Int) := od_
      have q569 : x10_1 < (l1_2.length : Int) := od_
      obtain ⟨ad569, A569_2, c569_2, e569, hx569_0, hx569_1, hx569_2, hl569_2, hi569_2⟩ := at_T63 HR1_2.out x10_1 p569 q569
      cases e569
      replace hx569_0 := (HB.out.cell (World.block_lt_of_cell? w _ hx569_0)).trans hx569_0
      replace hx569_1 := (HB.out.cell (World.block_lt_of_cell? w _ hx569_1)).trans hx569_1
      replace hx569_2 := (HB.out.cell (World.block_lt_of_cell? w _ hx569_2)).trans hx569_2
      have HR569_2 := Aside0.mk hi569_2
      have HC569_2 := Aside0.mk hl569_2
      clear hi569_2 hl569_2
      replace p569 := eq_true p569
      replace q569 := eq_true q569
      try go_wp2_with (first | ((with_reducible refine gate_dst (N := 6) rfl ?_); refine box_event rfl (N := 6) rfl (cs := #[.string (⟨#[]⟩ : ByteArray), .string (⟨#[]⟩ : ByteArray), .slice none 0 0]) (t := 63) hr_ ?_; intro gb570 hg w17 hbox hb; have BK570 := q_ (hbox); have GW570 := q_ ((by rw [hg]; exact (below_size (bs_ HB.out GE568.out)) : w.heap.size ≤ gb570)); have GE570 := q_ ((by rw [hg]; exact (below_size (bs_ HB.out GE568.out)) : w.heap.size ≤ gb570)); replace HB := q_ (below_step (bs_ HB.out GE568.out) hb); have NB568_570 := q_ ((by rw [hg]; exact Nat.ne_of_lt (blk_lt (g := gb568) (o := .cells #[.int .i64 a1_0, .int .i64 a1_1, .slice (some ad569) l1_2.length c1_2] 44 (0, 0)) (bk_ BK568.out)) : gb568 ≠ gb570)); have NB570_568 := q_ ((by rw [hg]; exact Nat.ne_of_gt (blk_lt (g := gb568) (o := .cells #[.int .i64 a1_0, .int .i64 a1_1, .slice (some ad569) l1_2.length c1_2] 44 (0, 0)) (bk_ BK568.out)) : gb570 ≠ gb568)); replace BK568 := q_ (bb_ BK568.out hb); clear hb hbox hg; have hnb18 := NB570_568.out; have hnc18 := NB568_570.out; obtain ⟨hcz19_0, hcz19_1, hcz19_2, hfz19_0, hfz19_1, hfz19_2⟩ := bx3_ BK570.out))
      have n0_ : Aside0 ((((w17.setCell ⟨gb570, 0, none⟩ (.string ((rd_T63 l1_2 x10_1).f0.f0))).setCell ⟨gb570, 1, none⟩ (.string ((rd_T63 l1_2 x10_1).f0.f1))).setCell ⟨gb570, 2, none⟩ (.slice A569_2 ((rd_T63 l1_2 x10_1).f1).length c569_2)).heap[gb568]? = some (.cells #[.int .i64 a1_0, .int .i64 a1_1, .slice (some ad569) l1_2.length c1_2] 44 (0, 0))) := ⟨by (with_reducible repeat (first | refine blk_drewN ?_ _ | refine blk_drew ?_ | refine blk_alloc ?_ _)); refine blk_far ?_ NB568_570.out _; (with_reducible repeat (first | refine blk_drewN ?_ _ | refine blk_drew ?_ | refine blk_alloc ?_ _)); refine blk_far ?_ NB568_570.out _; (with_reducible repeat (first | refine blk_drewN ?_ _ | refine blk_drew ?_ | refine blk_alloc ?_ _)); refine blk_far ?_ NB568_570.out _; (with_reducible repeat (first | refine blk_drewN ?_ _ | refine blk_drew ?_ | refine blk_alloc ?_ _)); exact BK568.out⟩
      have n1_ : Aside0 ((((w17.setCell ⟨gb570, 0, none⟩ (.string ((rd_T63 l1_2 x10_1).f0.f0))).setCell ⟨gb570, 1, none⟩ (.string ((rd_T63 l1_2 x10_1).f0.f1))).setCell ⟨gb570, 2, none⟩ (.slice A569_2 ((rd_T63 l1_2 x10_1).f1).length c569_2)).heap[gb570]? = some (.cells #[.string ((rd_T63 l1_2 x10_1).f0.f0), .string ((rd_T63 l1_2 x10_1).f0.f1), .slice A569_2 ((rd_T63 l1_2 x10_1).f1).length c569_2] 63 (0, 0))) := ⟨by (with_reducible repeat (first | refine blk_drewN ?_ _ | refine blk_drew ?_ | refine blk_alloc ?_ _)); refine blk_put (cs := #[.string ((rd_T63 l1_2 x10_1).f0.f0), .string ((rd_T63 l1_2 x10_1).f0.f1), .slice none 0 0]) ?_ 2 _ rfl; (with_reducible repeat (first | refine blk_drewN ?_ _ | refine blk_drew ?_ | refine blk_alloc ?_ _)); refine blk_put (cs := #[.string ((rd_T63 l1_2 x10_1).f0.f0), .string (⟨#[]⟩ : ByteArray), .slice none 0 0]) ?_ 1 _ rfl; (with_reducible repeat (first | refine blk_drewN ?_ _ | refine blk_drew ?_ | refine blk_alloc ?_ _)); refine blk_put (cs := #[.string (⟨#[]⟩ : ByteArray), .string (⟨#[]⟩ : ByteArray), .slice none 0 0]) ?_ 0 _ rfl; (with_reducible repeat (first | refine blk_drewN ?_ _ | refine blk_drew ?_ | refine blk_alloc ?_ _)); exact BK570.out⟩
      have n2_ : Aside0 (Below w.heap.size w (((w17.setCell ⟨gb570, 0, none⟩ (.string ((rd_T63 l1_2 x10_1).f0.f0))).setCell ⟨gb570, 1, none⟩ (.string ((rd_T63 l1_2 x10_1).f0.f1))).setCell ⟨gb570, 2, none⟩ (.slice A569_2 ((rd_T63 l1_2 x10_1).f1).length c569_2))) := ⟨b2_ HB.out GE568.out GE570.out⟩
      (try clear BK568)
      (try clear BK570)
      (try clear HB)
      generalize (((w17.setCell ⟨gb570, 0, none⟩ (.string ((rd_T63 l1_2 x10_1).f0.f0))).setCell ⟨gb570, 1, none⟩ (.string ((rd_T63 l1_2 x10_1).f0.f1))).setCell ⟨gb570, 2, none⟩ (.slice A569_2 ((rd_T63 l1_2 x10_1).f1).length c569_2)) = w20 at n0_ n1_ n2_ ⊢
      have BK568 := n0_
      have BK570 := n1_
      have HB := n2_
      clear n0_ n1_ n2_
      replace BK568 := q_ (blk_drew BK568.out)
      replace BK570 := q_ (blk_drew BK570.out)
      replace HB := q_ (below_drew1 HB.out)
      have p572 : 0 ≤ ((ji11) : Int) := od_
      have q572 : (ji11) < (l1_2.length : Int) := od_
      obtain ⟨ad572, A572_2, c572_2, e572, hx572_0, hx572_1, hx572_2, hl572_2, hi572_2⟩ := at_T63 HR1_2.out (ji11) p572 q572
      have hw572_2 := hx572_2
      have hw572_1 := hx572_1
      have hw572_0 := hx572_0
      obtain rfl : ad569 = ad572 := (by injection e572)
      replace hx572_0 := (HB.out.cell (World.block_lt_of_cell? w _ hx572_0)).trans hx572_0
      replace hx572_1 := (HB.out.cell (World.block_lt_of_cell? w _ hx572_1)).trans hx572_1
      replace hx572_2 := (HB.out.cell (World.block_lt_of_cell? w _ hx572_2)).trans hx572_2
      have HR572_2 := Aside0.mk hi572_2
      have HC572_2 := Aside0.mk hl572_2
      clear hi572_2 hl572_2
      replace p572 := eq_true p572
      replace q572 := eq_true q572
      refine start_ (n := 37) (S := fun w' => w'.cell? ⟨gb570, 0, none⟩ = some (.string ((rd_T63 l1_2 x10_1).f0.f0)) ∧ w'.cell? ⟨gb570, 1, none⟩ = some (.string ((rd_T63 l1_2 x10_1).f0.f1)) ∧ w'.cell? ⟨gb570, 2, none⟩ = some (.slice A569_2 ((rd_T63 l1_2 x10_1).f1).length c569_2) ∧ w'.cell? ⟨gb568, 0, none⟩ = some (.int .i64 a1_0) ∧ w'.cell? ⟨gb568, 1, none⟩ = some (.int .i64 a1_1) ∧ w'.cell? ⟨gb568, 2, none⟩ = some (.slice (some ad569) l1_2.length c1_2) ∧ w'.cell? (ad569.add (((ji11)).toNat * 3)) = some (.string ((rd_T63 l1_2 (ji11)).f0.f0)) ∧ w'.cell? ⟨(ad569.add (((ji11)).toNat * 3)).block, (ad569.add (((ji11)).toNat * 3)).off + 1, none⟩ = some (.string ((rd_T63 l1_2 (ji11)).f0.f1)) ∧ w'.cell? ⟨(ad569.add (((ji11)).toNat * 3)).block, (ad569.add (((ji11)).toNat * 3)).off + 2, none⟩ = some (.slice A572_2 ((rd_T63 l1_2 (ji11)).f1).length c572_2)) (ds := []) (bq_ 0 37) (by kernel_rfl) rfl rfl ⟨(blk_cell BK570.out 0).trans rfl, (blk_cell BK570.out 1).trans rfl, (blk_cell BK570.out 2).trans rfl, (blk_cell BK568.out 0).trans rfl, (blk_cell BK568.out 1).trans rfl, (blk_cell BK568.out 2).trans rfl, ((HB.out.cell (World.block_lt_of_cell? w _ hw572_0)).trans hw572_0), ((HB.out.cell (World.block_lt_of_cell? w _ hw572_1)).trans hw572_1), ((HB.out.cell (World.block_lt_of_cell? w _ hw572_2)).trans hw572_2)⟩ (fun hHeld => ?_); refine with_tabW impl_itemsOk.tab4 impl_itemsOk.bits4 (fun HT_ HW_ => ?_)
      generalize w20.drew = w21 at BK568 BK570 HB HR572_2 hx572_0 hx572_1 hx572_2 hHeld ⊢
      refine pu_ 0 (some 15) (bq_ 1 36) HT_ ?_
      refine take_ (i := 1) (N := some 16) (v := ?_) (a' := ?_) (bq_ 2 35) rfl rfl (take_ofW HT_.out HW_.out (by kernel_rfl)) (fun _ _ _ h => h) (Or.inl ⟨by rfl, ?_⟩) hHeld ?_ ?_
      rotate_left
      · rintro w' ⟨s0, s1, s2, s3, s4, s5, s6, s7, s8⟩
        go_simp
        with_reducible rfl
      rotate_left
      · simp only [Act.put, sa_, sz_, ss_, i64_w, i32_w]; rfl
      refine on_ 2 (some 17) (bq_ 3 34) HT_ (fun K hK => ?_)
      refine goes_ Try.func98 (by kernel_rfl) rfl #[.agg #[.string ((rd_T63 l1_2 x10_1).f0.f0), .string ((rd_T63 l1_2 x10_1).f0.f1)]] (by rfl) rfl rfl al_ ?_
      with_reducible refine (impl_PairOk.calls k1 ((rd_T63 l1_2 x10_1).f0.f0) ((rd_T63 l1_2 x10_1).f0.f1) true _ A8.out).mono ?_
      rintro e w22 ⟨rfl, hb⟩
      refine ⟨_, rfl, ?_⟩
      replace BK568 := q_ (bb_ BK568.out hb)
      replace BK570 := q_ (bb_ BK570.out hb)
      replace HB := q_ (below_step (b2_ HB.out GE568.out GE570.out) hb)
      (try clear hb)
      (try clear hb2)
      (try clear hk)
      (try clear hi)
      refine hK.out _ _ ⟨(blk_cell BK570.out 0).trans rfl, (blk_cell BK570.out 1).trans rfl, (blk_cell BK570.out 2).trans rfl, (blk_cell BK568.out 0).trans rfl, (blk_cell BK568.out 1).trans rfl, (blk_cell BK568.out 2).trans rfl, ((HB.out.cell (World.block_lt_of_cell? w _ hw572_0)).trans hw572_0), ((HB.out.cell (World.block_lt_of_cell? w _ hw572_1)).trans hw572_1), ((HB.out.cell (World.block_lt_of_cell? w _ hw572_2)).trans hw572_2)⟩ (fun hHeld => ?_)
      clear hK K
      refine nm_ ?_
      refine pu_ 3 (some 18) (bq_ 4 33) HT_ ?_
      refine pu_ 4 (some 19) (bq_ 5 32) HT_ ?_
      refine pu_ 5 (some 20) (bq_ 6 31) HT_ ?_
      refine pu_ 6 (some 21) (bq_ 7 30) HT_ ?_
      refine pu_ 7 (some 22) (bq_ 8 29) HT_ ?_
      refine pu_ 8 (some 23) (bq_ 9 28) HT_ ?_
      refine pu_ 9 (some 24) (bq_ 10 27) HT_ ?_
      refine pu_ 11 (some 26) (br_ [10, 1, 1, 25]) HT_ ?_
      refine pu_ 13 (some 28) (br_ [10, 1, 1, 1, 1, 23]) HT_ ?_
      refine pu_ 14 (some 29) (br_ [10, 1, 1, 1, 2, 22]) HT_ ?_
      refine take_ (i := 10) (N := some 25) (v := ?_) (a' := ?_) (br_ [12, 1, 2, 22]) rfl rfl (take_ofW HT_.out HW_.out (by kernel_rfl)) (fun _ _ _ h => h) (Or.inl ⟨by rfl, ?_⟩) hHeld ?_ ?_
      rotate_left
      · rintro w' ⟨s0, s1, s2, s3, s4, s5, s6, s7, s8⟩
        go_simp
        with_reducible rfl
      rotate_left
      · simp only [Act.put, sa_, sz_, ss_, i64_w, i32_w]; rfl
      refine take_ (i := 12) (N := some 27) (v := ?_) (a' := ?_) (bq_ 15 22) rfl rfl (take_ofW HT_.out HW_.out (by kernel_rfl)) (fun _ _ _ h => h) (Or.inl ⟨by rfl, ?_⟩) hHeld ?_ ?_
      rotate_left
      · rintro w' ⟨s0, s1, s2, s3, s4, s5, s6, s7, s8⟩
        go_simp
        with_reducible rfl
      rotate_left
      · simp only [Act.put, sa_, sz_, ss_, i64_w, i32_w]; rfl
      refine pu_ 15 (some 30) (bq_ 16 21) HT_ ?_
      refine pu_ 16 (some 31) (bq_ 17 20) HT_ ?_
      refine pu_ 17 (some 32) (bq_ 18 19) HT_ ?_
      refine take_ (i := 18) (N := some 33) (v := ?_) (a' := ?_) (bq_ 19 18) rfl rfl (take_ofW HT_.out HW_.out (by kernel_rfl)) (fun _ _ _ h => h) (Or.inl ⟨by rfl, ?_⟩) hHeld ?_ ?_
      rotate_left
      · rintro w' ⟨s0, s1, s2, s3, s4, s5, s6, s7, s8⟩
        go_simp
        with_reducible rfl
      rotate_left
      · simp only [Act.put, sa_, sz_, ss_, i64_w, i32_w]; rfl
      refine pu_ 19 (some 34) (bq_ 20 17) HT_ ?_
      refine pu_ 20 (some 35) (bq_ 21 16) HT_ ?_
      refine pu_ 21 (some 36) (bq_ 22 15) HT_ ?_
      refine pu_ 22 (some 37) (bq_ 23 14) HT_ ?_
      refine pu_ 23 (some 38) (bq_ 24 13) HT_ ?_
      refine pu_ 25 (some 40) (br_ [24, 1, 1, 11]) HT_ ?_
      refine pu_ 27 (some 42) (br_ [24, 1, 1, 1, 1, 9]) HT_ ?_
      refine pu_ 29 (some 44) (br_ [24, 1, 1, 1, 1, 1, 1, 7]) HT_ ?_
      refine pu_ 31 (some 46) (br_ [24, 1, 1, 1, 1, 1, 1, 1, 1, 5]) HT_ ?_
      refine pu_ 33 (some 48) (br_ [24, 1, 1, 1, 1, 1, 1, 1, 1, 1, 1, 3]) HT_ ?_
      refine take_ (i := 24) (N := some 39) (v := ?_) (a' := ?_) (br_ [26, 1, 1, 1, 1, 1, 1, 1, 1, 3]) rfl rfl (take_ofW HT_.out HW_.out (by kernel_rfl)) (fun _ _ _ h => h) (Or.inl ⟨by rfl, ?_⟩) hHeld ?_ ?_
      rotate_left
      · rintro w' ⟨s0, s1, s2, s3, s4, s5, s6, s7, s8⟩
        go_simp
        with_reducible rfl
      rotate_left
      · simp only [Act.put, sa_, sz_, ss_, i64_w, i32_w]; rfl
      refine take_ (i := 26) (N := some 41) (v := ?_) (a' := ?_) (br_ [28, 1, 1, 1, 1, 1, 1, 3]) rfl rfl (take_ofW HT_.out HW_.out (by kernel_rfl)) (fun _ _ _ h => h) (Or.inl ⟨by rfl, ?_⟩) hHeld ?_ ?_
      rotate_left
      · rintro w' ⟨s0, s1, s2, s3, s4, s5, s6, s7, s8⟩
        go_simp
        with_reducible rfl
      rotate_left
      · simp only [Act.put, sa_, sz_, ss_, i64_w, i32_w]; rfl
      refine pu_ 28 (some 43) (br_ [30, 1, 1, 1, 1, 3]) HT_ ?_
      refine take_ (i := 30) (N := some 45) (v := ?_) (a' := ?_) (br_ [32, 1, 1, 3]) rfl rfl (take_ofW HT_.out HW_.out (by kernel_rfl)) (fun _ _ _ h => h) (Or.inl ⟨by rfl, ?_⟩) hHeld ?_ ?_
      rotate_left
      · rintro w' ⟨s0, s1, s2, s3, s4, s5, s6, s7, s8⟩
        go_simp
        with_reducible rfl
      rotate_left
      · simp only [Act.put, sa_, sz_, ss_, i64_w, i32_w]; rfl
      refine take_ (i := 32) (N := some 47) (v := ?_) (a' := ?_) (bq_ 34 3) rfl rfl (take_ofW HT_.out HW_.out (by kernel_rfl)) (fun _ _ _ h => h) (Or.inl ⟨by rfl, ?_⟩) hHeld ?_ ?_
      rotate_left
      · rintro w' ⟨s0, s1, s2, s3, s4, s5, s6, s7, s8⟩
        go_simp
        with_reducible rfl
      rotate_left
      · simp only [Act.put, sa_, sz_, ss_, i64_w, i32_w]; rfl
      refine on_ 34 (some 49) (bq_ 35 2) HT_ (fun K hK => ?_)
      refine goes_ Try.func15 (by kernel_rfl) rfl #[.agg #[.string ((rd_T63 l1_2 x10_1).f0.f0), .string ((rd_T63 l1_2 x10_1).f0.f1)], .int .i64 (wrap64 (a1_1 + x10_1)), .int .i64 a1_0, .slice A569_2 ((rd_T63 l1_2 x10_1).f1).length c569_2, .string a0] (by rfl) rfl rfl al_ ?_
      with_reducible refine (impl_CheckPath.calls k1 ((rd_T63 l1_2 x10_1).f0.f0) ((rd_T63 l1_2 x10_1).f0.f1) (wrap64 (a1_1 + x10_1)) a1_0 _ _ ((rd_T63 l1_2 x10_1).f1) a0 true _ ?side1 ?side2 A15.out).mono ?_
      (case side1 => exact kc_ (Kd.C_below HR569_2.out HB.out))
      (case side2 => exact HC569_2.out)
      rintro e w23 ⟨rfl, hb⟩
      refine ⟨_, rfl, ?_⟩
      replace BK568 := q_ (bb_ BK568.out hb)
      replace BK570 := q_ (bb_ BK570.out hb)
      replace HB := q_ (below_step (b2_ HB.out GE568.out GE570.out) hb)
      (try clear hb)
      (try clear hb2)
      (try clear hk)
      (try clear hi)
      refine hK.out _ _ ⟨(blk_cell BK570.out 0).trans rfl, (blk_cell BK570.out 1).trans rfl, (blk_cell BK570.out 2).trans rfl, (blk_cell BK568.out 0).trans rfl, (blk_cell BK568.out 1).trans rfl, (blk_cell BK568.out 2).trans rfl, ((HB.out.cell (World.block_lt_of_cell? w _ hw572_0)).trans hw572_0), ((HB.out.cell (World.block_lt_of_cell? w _ hw572_1)).trans hw572_1), ((HB.out.cell (World.block_lt_of_cell? w _ hw572_2)).trans hw572_2)⟩ (fun hHeld => ?_)
      clear hK K
      refine nm_ ?_
      refine pu_ 35 (some 50) (bq_ 36 1) HT_ ?_
      refine pu_ 36 (some 51) (bq_ 37 0) HT_ ?_
      refine done_ (done_of HT_.out (by kernel_rfl)) ?_
      try go_wp2
      go_roundg k1
      case measure => have := HK1.out; omega
      case rel => exact ⟨(wrap64 (x10_1 + 1)), rs_, H', ⟨by have := HK1.out; omega⟩, ⟨by (with_reducible repeat (first | refine blk_drewN ?_ _ | refine blk_drew ?_ | refine blk_alloc ?_ _)); exact BK568.out⟩, ⟨b2_ HB.out GE568.out GE570.out⟩⟩
    · rw [if_neg c5] at H
      have c5b0 : decide (x10_1 < (l1_2.length : Int)) = false := decide_eq_false c5
      clear c5
      obtain rfl := Option.some.inj H
      go_wp2
      go_ret
      exact ⟨rf_, bs_ HB.out GE568.out⟩

end Go.Proofs.Ytgaalomhipfgjaa.P
