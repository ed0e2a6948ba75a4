import Derived.Test.YtgmfhchhbidlnaaStr
import Derived.Test.YtgmfhchhbidlnaaPx0
import Derived.Test.YtgmfhchhbidlnaaPx10
import Derived.Test.YtgmfhchhbidlnaaPx12
namespace Go.Proofs.Ytgmfhchhbidlnaa.P
open Go.RowKit Go.Proofs.YtgmfhchhbidlnaaW.PrintWords Go.Proofs.YtgmfhchhbidlnaaW.PrintLast Go.Proofs.YtgmfhchhbidlnaaW.PrintMore
attribute [local go_sem] max2_int min2_int max_two min_two max_three min_three max_four min_four
set_option linter.unusedVariables false
set_option maxHeartbeats 8000000
set_option maxRecDepth 100000
set_option linter.unusedSimpArgs false
def impl_itemsOk.l0 : Nat → ByteArray → List (S52) → Int → Int → Int → Int → List (S52) → Option (Bool)
 | 0, _, _, _, _, _, _, _ => none
 | k + 1, x0, x8, x9, aD, aC, aB, aA => if aD < x9 then (if 0 ≤ aD then (if aD < (x8.length : Int) then ((impl_PairOk.f k ((rd_T52 x8 aD).f0.f0) ((rd_T52 x8 aD).f0.f1)).bind fun aG => (if aG = true then (if aD > 0 then (if 0 ≤ (wrap64 (aD - 1)) then (if (wrap64 (aD - 1)) < (aA.length : Int) then (if ((Op.bytesLess (((rd_T52 aA (wrap64 (aD - 1))).f0.f0).toList) (((rd_T52 x8 aD).f0.f0).toList)) = true) then ((impl_CheckPath.f k ((rd_T52 x8 aD).f0.f0) ((rd_T52 x8 aD).f0.f1) (wrap64 (aB + aD)) aC ((rd_T52 x8 aD).f1) x0).bind fun aF => (if aF = true then (impl_itemsOk.l0 k x0 x8 x9 (wrap64 (aD + 1)) aC aB aA) else (some false))) else (some false)) else (none)) else (none)) else ((impl_CheckPath.f k ((rd_T52 x8 aD).f0.f0) ((rd_T52 x8 aD).f0.f1) (wrap64 (aB + aD)) aC ((rd_T52 x8 aD).f1) x0).bind fun aE => (if aE = true then (impl_itemsOk.l0 k x0 x8 x9 (wrap64 (aD + 1)) aC aB aA) else (some false)))) else (some false))) else (none)) else (none)) else (some true)
def impl_itemsOk.f (k : Nat) (a0 : ByteArray) (aC : Int) (aB : Int) (aA : List (S52)) : Option (Bool) := impl_itemsOk.l0 k a0 aA (aA.length : Int) 0 aC aB aA
def impl_itemsOk.T4 : Bool × List (List Nat × List Nat) := (true, [([], []), ([0], [0]), ([1], [1]), ([2], [2]), ([3, 2], [3]), ([4], [4]), ([5, 4], [4, 5]), ([6, 4, 4], [4, 6]), ([7], [7]), ([8, 7], [7, 8]), ([9, 7], [7, 9]), ([7], [7]), ([11, 7], [7, 11]), ([7], [7]), ([13, 7], [7, 13]), ([12, 14, 7], [7, 12, 14]), ([15, 7], [7, 15]), ([16, 7], [7, 16]), ([17, 7], [7, 17]), ([10, 18, 7], [7, 10, 18]), ([7, 19, 4], [4, 7, 19]), ([4, 20], [4, 20]), ([21, 7], [21]), ([22], [22]), ([23, 22], [22, 23]), ([22], [22]), ([25, 22], [22, 25]), ([22], [22]), ([26, 27, 22], [22, 26, 27]), ([22], [22]), ([29, 22], [22, 29]), ([22], [22]), ([31, 22], [22, 31]), ([22], [22]), ([24, 28, 30, 32, 33, 22, 22], [22, 24, 28, 30, 32, 33]), ([34, 22], [22, 34]), ([22, 35], [22, 35])])
def impl_itemsOk.B4 : List Nat := [0, 1, 3, 7, 15, 31, 63, 127, 255, 511, 1023, 255, 2303, 255, 8447, 30975, 63743, 129279, 260351, 524287, 1048575, 2097151, 4194303, 8388607, 16777215, 8388607, 41943039, 8388607, 243269631, 8388607, 545259519, 8388607, 2155872255, 8388607, 17179869183, 34359738367, 68719476735]
theorem impl_itemsOk.tab4 : rtab .any (opsOf Try.f23 4) = impl_itemsOk.T4 := by kernel_rfl
theorem impl_itemsOk.bits4 : waitsOk impl_itemsOk.T4.2 impl_itemsOk.B4 = true := by kernel_rfl
theorem impl_itemsOk.calls (k : Nat) (a0 : ByteArray) (aN : Int) (aM : Int) (bM : Option Addr) (aQ : Nat) (aB : List (S52)) (r : Bool) (w : World) (bN : Kd.C k52 w bM aB.length aB) (bO : aB.length ≤ aQ) (h : impl_itemsOk.f k a0 aN aM aB = some r) :
 Calls Try.prog 23 #[.string a0, .agg #[.int .i64 aN, .int .i64 aM, .slice bM aB.length aQ]] w fun e w' => e = .returned (.bool r) ∧ Below w.heap.size w w' := by
 have eA := Try.underlying27
 have dY := Try.underlying52
 have dZ := Try.underlying45
 have bF := Aside0.mk bN
 have dT := Aside0.mk bO
 clear bN bO
 have HB := q_ (Below.refl w.heap.size w)
 have H := h
 clear h
 unfold impl_itemsOk.f at H
 have H' := Aside0.mk H
 clear H
 go_enter Try.func23, Try.ntmps23
 go_wp2_with (first | ((with_reducible refine gate_dst (N := 3) rfl ?_); refine box_event rfl (N := 3) rfl (cs := #[.int .i64 aN, .int .i64 aM, .slice bM aB.length aQ]) (t := 27) hr_ ?_; intro aI hg w3 hbox hb; have aC := q_ (hbox); have aJ := ge_ hg (be_ HB.out); replace HB := q_ (below_step (be_ HB.out) hb); clear hb hbox hg; obtain ⟨dI, dH, dG, dF, dE, dD⟩ := bx3_ aC.out))
 go_loopg [10] k (fun kq dX w' => ∃ (aA : Int), dX = .int .i64 aA ∧ Aside0 (impl_itemsOk.l0 kq a0 aB (aB.length : Int) aA aN aM aB = some r) ∧ Aside0 (kq ≤ k) ∧ Aside0 (w'.heap[aI]? = some (.cells #[.int .i64 aN, .int .i64 aM, (.slice bM aB.length aQ)] 27 (0, 0))) ∧ Aside0 (Below w.heap.size w w'))
 case atStart => exact ⟨(0), rs_, H', ⟨Nat.le_refl _⟩, ⟨bk_ aC.out⟩, ⟨bs_ HB.out aJ.out⟩⟩
 case round =>
  clear H'
  obtain ⟨aA, rfl, HA, cZ, aC, HB⟩ := hrel
  cases gk with
  | zero => exact absurd HA.out (by simp [impl_itemsOk.l0])
  | succ k1 =>
   have H := HA.out
   clear HA
   simp only [impl_itemsOk.l0] at H
   by_cases c5 : aA < (aB.length : Int)
   ·
    rw [if_pos c5] at H
    have dK := decide_eq_true c5
    clear c5
    obtain ⟨eC, H⟩ := id_ H
    obtain ⟨eB, H⟩ := id_ H
    obtain ⟨dB, A8, H⟩ := bo_ H
    by_cases c9 : dB = true
    rotate_left
    ·
     replace c9 := Bool.eq_false_iff.mpr c9
     subst c9
     rw [if_neg (show ¬ (false = true) by decide)] at H
     obtain rfl := Option.some.inj H
     obtain ⟨aK, aH, aG, bJ, bC, bB, bA, aV, aU, bY, bX⟩ := at3_ HB.out (at_T52 bF.out aA)
     cases bJ
     try go_wp2_with (first | ((with_reducible refine gate_dst (N := 6) rfl ?_); refine box_event rfl (N := 6) rfl (cs := #[.string (⟨#[]⟩ : ByteArray), .string (⟨#[]⟩ : ByteArray), .slice none 0 0]) (t := 52) hr_ ?_; intro aE hg cB hbox hb; have aD := q_ (hbox); have aL := ge_ hg (bs_ HB.out aJ.out); replace HB := q_ (below_step (bs_ HB.out aJ.out) hb); have aF := q_ ((by rw [hg]; exact Nat.ne_of_lt (blk_lt (g := aI) (o := .cells #[.int .i64 aN, .int .i64 aM, .slice (some aK) aB.length aQ] 27 (0, 0)) (bk_ aC.out)) : aI ≠ aE)); have aO := q_ ((by rw [hg]; exact Nat.ne_of_gt (blk_lt (g := aI) (o := .cells #[.int .i64 aN, .int .i64 aM, .slice (some aK) aB.length aQ] 27 (0, 0)) (bk_ aC.out)) : aE ≠ aI)); replace aC := q_ (bb_ aC.out hb); clear hb hbox hg; have dO := aO.out; have dL := aF.out; obtain ⟨cP, cO, cN, cG, cF, cE⟩ := bx3_ aD.out))
     have bI : Aside0 ((((cB.setCell ⟨aE, 0, none⟩ (.string ((rd_T52 aB aA).f0.f0))).setCell ⟨aE, 1, none⟩ (.string ((rd_T52 aB aA).f0.f1))).setCell ⟨aE, 2, none⟩ (.slice aH ((rd_T52 aB aA).f1).length aG)).heap[aI]? = some (.cells #[.int .i64 aN, .int .i64 aM, .slice (some aK) aB.length aQ] 27 (0, 0))) := ⟨by (with_reducible repeat (first | refine blk_drewN ?_ _ | refine blk_drew ?_ | refine blk_alloc ?_ _)); refine blk_far ?_ aF.out _; (with_reducible repeat (first | refine blk_drewN ?_ _ | refine blk_drew ?_ | refine blk_alloc ?_ _)); refine blk_far ?_ aF.out _; (with_reducible repeat (first | refine blk_drewN ?_ _ | refine blk_drew ?_ | refine blk_alloc ?_ _)); refine blk_far ?_ aF.out _; (with_reducible repeat (first | refine blk_drewN ?_ _ | refine blk_drew ?_ | refine blk_alloc ?_ _)); exact aC.out⟩
     have bH : Aside0 ((((cB.setCell ⟨aE, 0, none⟩ (.string ((rd_T52 aB aA).f0.f0))).setCell ⟨aE, 1, none⟩ (.string ((rd_T52 aB aA).f0.f1))).setCell ⟨aE, 2, none⟩ (.slice aH ((rd_T52 aB aA).f1).length aG)).heap[aE]? = some (.cells #[.string ((rd_T52 aB aA).f0.f0), .string ((rd_T52 aB aA).f0.f1), .slice aH ((rd_T52 aB aA).f1).length aG] 52 (0, 0))) := ⟨by (with_reducible repeat (first | refine blk_drewN ?_ _ | refine blk_drew ?_ | refine blk_alloc ?_ _)); refine blk_put (cs := #[.string ((rd_T52 aB aA).f0.f0), .string ((rd_T52 aB aA).f0.f1), .slice none 0 0]) ?_ 2 _ rfl; (with_reducible repeat (first | refine blk_drewN ?_ _ | refine blk_drew ?_ | refine blk_alloc ?_ _)); refine blk_put (cs := #[.string ((rd_T52 aB aA).f0.f0), .string (⟨#[]⟩ : ByteArray), .slice none 0 0]) ?_ 1 _ rfl; (with_reducible repeat (first | refine blk_drewN ?_ _ | refine blk_drew ?_ | refine blk_alloc ?_ _)); refine blk_put (cs := #[.string (⟨#[]⟩ : ByteArray), .string (⟨#[]⟩ : ByteArray), .slice none 0 0]) ?_ 0 _ rfl; (with_reducible repeat (first | refine blk_drewN ?_ _ | refine blk_drew ?_ | refine blk_alloc ?_ _)); exact aD.out⟩
     have bG : Aside0 (Below w.heap.size w (((cB.setCell ⟨aE, 0, none⟩ (.string ((rd_T52 aB aA).f0.f0))).setCell ⟨aE, 1, none⟩ (.string ((rd_T52 aB aA).f0.f1))).setCell ⟨aE, 2, none⟩ (.slice aH ((rd_T52 aB aA).f1).length aG))) := ⟨b2_ HB.out aJ.out aL.out⟩
     (try clear aC)
     (try clear aD)
     (try clear HB)
     generalize (((cB.setCell ⟨aE, 0, none⟩ (.string ((rd_T52 aB aA).f0.f0))).setCell ⟨aE, 1, none⟩ (.string ((rd_T52 aB aA).f0.f1))).setCell ⟨aE, 2, none⟩ (.slice aH ((rd_T52 aB aA).f1).length aG)) = dU at bI bH bG ⊢
     have aC := bI
     have aD := bH
     have HB := bG
     clear bI bH bG
     replace aC := q_ (blk_drew aC.out)
     replace aD := q_ (blk_drew aD.out)
     replace HB := q_ (below_drew1 HB.out)
     refine sr_ (fun w' => w'.cell? ⟨aE, 0, none⟩ = some (.string ((rd_T52 aB aA).f0.f0)) ∧ w'.cell? ⟨aE, 1, none⟩ = some (.string ((rd_T52 aB aA).f0.f1)) ∧ w'.cell? ⟨aE, 2, none⟩ = some (.slice aH ((rd_T52 aB aA).f1).length aG)) [] impl_itemsOk.tab4 impl_itemsOk.bits4 ⟨(blk_cell aD.out 0).trans rfl, (blk_cell aD.out 1).trans rfl, (blk_cell aD.out 2).trans rfl⟩ (fun hD hT hW => ?_)
     generalize dU.drew = eG at aC aD HB hD ⊢
     refine p_ 0 15 hT ?_; refine k_ 1 16 hT hW hD ?_
     refine oc_ 2 17 (bq_ 3 34) hT Try.func48 #[.agg #[.string ((rd_T52 aB aA).f0.f0), .string ((rd_T52 aB aA).f0.f1)]] ?_
     with_reducible refine (impl_PairOk.calls k1 ((rd_T52 aB aA).f0.f0) ((rd_T52 aB aA).f0.f1) false _ A8.out).mono ?_
     rintro e eF ⟨rfl, hb⟩
     refine ⟨_, rfl, ?_⟩
     replace aC := q_ (bb_ aC.out hb)
     replace aD := q_ (bb_ aD.out hb)
     replace HB := q_ (below_step (b2_ HB.out aJ.out aL.out) hb)
     (try clear hb)
     (try clear cW)
     (try clear hk)
     (try clear hi)
     refine ⟨⟨(blk_cell aD.out 0).trans rfl, (blk_cell aD.out 1).trans rfl, (blk_cell aD.out 2).trans rfl⟩, fun hD => nm_ ?_⟩
     refine p_ 3 18 hT ?_; refine p_ 4 19 hT ?_; refine u_ 5 20 hT ?_; refine u_ 6 21 hT ?_; refine u_ 7 22 hT ?_; refine u_ 8 23 hT ?_; refine u_ 9 24 hT ?_; refine u_ 10 25 hT ?_; refine u_ 11 26 hT ?_; refine u_ 12 27 hT ?_; refine u_ 13 28 hT ?_; refine u_ 14 29 hT ?_; refine u_ 15 30 hT ?_; refine u_ 16 31 hT ?_; refine u_ 17 32 hT ?_; refine u_ 18 33 hT ?_; refine u_ 19 34 hT ?_; refine u_ 20 35 hT ?_; refine p_ 21 36 hT ?_; refine p_ 22 37 hT ?_; refine u_ 23 38 hT ?_; refine u_ 24 39 hT ?_; refine u_ 25 40 hT ?_; refine u_ 26 41 hT ?_; refine u_ 27 42 hT ?_; refine u_ 28 43 hT ?_; refine u_ 29 44 hT ?_; refine u_ 30 45 hT ?_; refine u_ 31 46 hT ?_; refine u_ 32 47 hT ?_; refine u_ 33 48 hT ?_; refine u_ 34 49 hT ?_; refine u_ 35 50 hT ?_; refine p_ 36 51 hT ?_
     refine done_ (done_of hT.out (by kernel_rfl)) ?_
     try go_wp2
     go_ret
     exact ⟨rf_, b2_ HB.out aJ.out aL.out⟩
    subst c9
    rw [if_pos rfl] at H
    by_cases bU : aA > 0
    rotate_left
    ·
     rw [if_neg bU] at H
     have bZ : decide (0 < aA) = false := decide_eq_false bU
     clear bU
     obtain ⟨bV, eD, H⟩ := bo_ H
     have HZ := Aside0.mk H
     clear H
     obtain ⟨aK, aH, aG, bJ, bC, bB, bA, aV, aU, bY, bX⟩ := at3_ HB.out (at_T52 bF.out aA)
     cases bJ
     try go_wp2_with (first | ((with_reducible refine gate_dst (N := 6) rfl ?_); refine box_event rfl (N := 6) rfl (cs := #[.string (⟨#[]⟩ : ByteArray), .string (⟨#[]⟩ : ByteArray), .slice none 0 0]) (t := 52) hr_ ?_; intro aE hg cC hbox hb; have aD := q_ (hbox); have aL := ge_ hg (bs_ HB.out aJ.out); replace HB := q_ (below_step (bs_ HB.out aJ.out) hb); have aF := q_ ((by rw [hg]; exact Nat.ne_of_lt (blk_lt (g := aI) (o := .cells #[.int .i64 aN, .int .i64 aM, .slice (some aK) aB.length aQ] 27 (0, 0)) (bk_ aC.out)) : aI ≠ aE)); have aO := q_ ((by rw [hg]; exact Nat.ne_of_gt (blk_lt (g := aI) (o := .cells #[.int .i64 aN, .int .i64 aM, .slice (some aK) aB.length aQ] 27 (0, 0)) (bk_ aC.out)) : aE ≠ aI)); replace aC := q_ (bb_ aC.out hb); clear hb hbox hg; have dP := aO.out; have dM := aF.out; obtain ⟨cS, cR, cQ, cJ, cI, cH⟩ := bx3_ aD.out))
     have bI : Aside0 ((((cC.setCell ⟨aE, 0, none⟩ (.string ((rd_T52 aB aA).f0.f0))).setCell ⟨aE, 1, none⟩ (.string ((rd_T52 aB aA).f0.f1))).setCell ⟨aE, 2, none⟩ (.slice aH ((rd_T52 aB aA).f1).length aG)).heap[aI]? = some (.cells #[.int .i64 aN, .int .i64 aM, .slice (some aK) aB.length aQ] 27 (0, 0))) := ⟨by (with_reducible repeat (first | refine blk_drewN ?_ _ | refine blk_drew ?_ | refine blk_alloc ?_ _)); refine blk_far ?_ aF.out _; (with_reducible repeat (first | refine blk_drewN ?_ _ | refine blk_drew ?_ | refine blk_alloc ?_ _)); refine blk_far ?_ aF.out _; (with_reducible repeat (first | refine blk_drewN ?_ _ | refine blk_drew ?_ | refine blk_alloc ?_ _)); refine blk_far ?_ aF.out _; (with_reducible repeat (first | refine blk_drewN ?_ _ | refine blk_drew ?_ | refine blk_alloc ?_ _)); exact aC.out⟩
     have bH : Aside0 ((((cC.setCell ⟨aE, 0, none⟩ (.string ((rd_T52 aB aA).f0.f0))).setCell ⟨aE, 1, none⟩ (.string ((rd_T52 aB aA).f0.f1))).setCell ⟨aE, 2, none⟩ (.slice aH ((rd_T52 aB aA).f1).length aG)).heap[aE]? = some (.cells #[.string ((rd_T52 aB aA).f0.f0), .string ((rd_T52 aB aA).f0.f1), .slice aH ((rd_T52 aB aA).f1).length aG] 52 (0, 0))) := ⟨by (with_reducible repeat (first | refine blk_drewN ?_ _ | refine blk_drew ?_ | refine blk_alloc ?_ _)); refine blk_put (cs := #[.string ((rd_T52 aB aA).f0.f0), .string ((rd_T52 aB aA).f0.f1), .slice none 0 0]) ?_ 2 _ rfl; (with_reducible repeat (first | refine blk_drewN ?_ _ | refine blk_drew ?_ | refine blk_alloc ?_ _)); refine blk_put (cs := #[.string ((rd_T52 aB aA).f0.f0), .string (⟨#[]⟩ : ByteArray), .slice none 0 0]) ?_ 1 _ rfl; (with_reducible repeat (first | refine blk_drewN ?_ _ | refine blk_drew ?_ | refine blk_alloc ?_ _)); refine blk_put (cs := #[.string (⟨#[]⟩ : ByteArray), .string (⟨#[]⟩ : ByteArray), .slice none 0 0]) ?_ 0 _ rfl; (with_reducible repeat (first | refine blk_drewN ?_ _ | refine blk_drew ?_ | refine blk_alloc ?_ _)); exact aD.out⟩
     have bG : Aside0 (Below w.heap.size w (((cC.setCell ⟨aE, 0, none⟩ (.string ((rd_T52 aB aA).f0.f0))).setCell ⟨aE, 1, none⟩ (.string ((rd_T52 aB aA).f0.f1))).setCell ⟨aE, 2, none⟩ (.slice aH ((rd_T52 aB aA).f1).length aG))) := ⟨b2_ HB.out aJ.out aL.out⟩
     (try clear aC)
     (try clear aD)
     (try clear HB)
     generalize (((cC.setCell ⟨aE, 0, none⟩ (.string ((rd_T52 aB aA).f0.f0))).setCell ⟨aE, 1, none⟩ (.string ((rd_T52 aB aA).f0.f1))).setCell ⟨aE, 2, none⟩ (.slice aH ((rd_T52 aB aA).f1).length aG)) = dV at bI bH bG ⊢
     have aC := bI
     have aD := bH
     have HB := bG
     clear bI bH bG
     replace aC := q_ (blk_drew aC.out)
     replace aD := q_ (blk_drew aD.out)
     replace HB := q_ (below_drew1 HB.out)
     refine sr_ (fun w' => w'.cell? ⟨aE, 0, none⟩ = some (.string ((rd_T52 aB aA).f0.f0)) ∧ w'.cell? ⟨aE, 1, none⟩ = some (.string ((rd_T52 aB aA).f0.f1)) ∧ w'.cell? ⟨aE, 2, none⟩ = some (.slice aH ((rd_T52 aB aA).f1).length aG) ∧ w'.cell? ⟨aI, 0, none⟩ = some (.int .i64 aN) ∧ w'.cell? ⟨aI, 1, none⟩ = some (.int .i64 aM) ∧ w'.cell? ⟨aI, 2, none⟩ = some (.slice (some aK) aB.length aQ)) [] impl_itemsOk.tab4 impl_itemsOk.bits4 ⟨(blk_cell aD.out 0).trans rfl, (blk_cell aD.out 1).trans rfl, (blk_cell aD.out 2).trans rfl, (blk_cell aC.out 0).trans rfl, (blk_cell aC.out 1).trans rfl, (blk_cell aC.out 2).trans rfl⟩ (fun hD hT hW => ?_)
     generalize dV.drew = eJ at aC aD HB hD ⊢
     refine p_ 0 15 hT ?_; refine k_ 1 16 hT hW hD ?_
     refine oc_ 2 17 (bq_ 3 34) hT Try.func48 #[.agg #[.string ((rd_T52 aB aA).f0.f0), .string ((rd_T52 aB aA).f0.f1)]] ?_
     with_reducible refine (impl_PairOk.calls k1 ((rd_T52 aB aA).f0.f0) ((rd_T52 aB aA).f0.f1) true _ A8.out).mono ?_
     rintro e eI ⟨rfl, hb⟩
     refine ⟨_, rfl, ?_⟩
     replace aC := q_ (bb_ aC.out hb)
     replace aD := q_ (bb_ aD.out hb)
     replace HB := q_ (below_step (b2_ HB.out aJ.out aL.out) hb)
     (try clear hb)
     (try clear cW)
     (try clear hk)
     (try clear hi)
     refine ⟨⟨(blk_cell aD.out 0).trans rfl, (blk_cell aD.out 1).trans rfl, (blk_cell aD.out 2).trans rfl, (blk_cell aC.out 0).trans rfl, (blk_cell aC.out 1).trans rfl, (blk_cell aC.out 2).trans rfl⟩, fun hD => nm_ ?_⟩
     refine p_ 3 18 hT ?_; refine p_ 4 19 hT ?_; refine p_ 5 20 hT ?_; refine p_ 6 21 hT ?_; refine p_ 7 22 hT ?_; refine u_ 8 23 hT ?_; refine u_ 9 24 hT ?_; refine u_ 10 25 hT ?_; refine u_ 11 26 hT ?_; refine u_ 12 27 hT ?_; refine u_ 13 28 hT ?_; refine u_ 14 29 hT ?_; refine u_ 15 30 hT ?_; refine u_ 16 31 hT ?_; refine u_ 17 32 hT ?_; refine u_ 18 33 hT ?_; refine u_ 19 34 hT ?_; refine p_ 20 35 hT ?_; refine p_ 21 36 hT ?_; refine p_ 22 37 hT ?_; refine p_ 23 38 hT ?_; refine p_ 25 40 hT ?_; refine p_ 27 42 hT ?_; refine p_ 29 44 hT ?_; refine p_ 31 46 hT ?_; refine p_ 33 48 hT ?_; refine k_ 24 39 hT hW hD ?_; refine k_ 26 41 hT hW hD ?_; refine p_ 28 43 hT ?_; refine k_ 30 45 hT hW hD ?_; refine k_ 32 47 hT hW hD ?_
     refine oc_ 34 49 (bq_ 35 2) hT Try.func49 #[.agg #[.string ((rd_T52 aB aA).f0.f0), .string ((rd_T52 aB aA).f0.f1)], .int .i64 (wrap64 (aM + aA)), .int .i64 aN, .slice aH ((rd_T52 aB aA).f1).length aG, .string a0] ?_
     with_reducible refine (impl_CheckPath.calls k1 ((rd_T52 aB aA).f0.f0) ((rd_T52 aB aA).f0.f1) (wrap64 (aM + aA)) aN _ _ ((rd_T52 aB aA).f1) a0 bV _ ?side1 ?side2 eD.out).mono ?_
     (case side1 => exact kc_ (Kd.C_below aU.out HB.out))
     (case side2 => exact aV.out)
     rintro e eH ⟨rfl, hb⟩
     refine ⟨_, rfl, ?_⟩
     replace aC := q_ (bb_ aC.out hb)
     replace aD := q_ (bb_ aD.out hb)
     replace HB := q_ (below_step (b2_ HB.out aJ.out aL.out) hb)
     (try clear hb)
     (try clear cW)
     (try clear hk)
     (try clear hi)
     refine ⟨⟨(blk_cell aD.out 0).trans rfl, (blk_cell aD.out 1).trans rfl, (blk_cell aD.out 2).trans rfl, (blk_cell aC.out 0).trans rfl, (blk_cell aC.out 1).trans rfl, (blk_cell aC.out 2).trans rfl⟩, fun hD => nm_ ?_⟩
     refine p_ 35 50 hT ?_; refine p_ 36 51 hT ?_
     by_cases cX : bV = true
     rotate_left
     ·
      have H := HZ.out
      try clear HZ
      replace cX := Bool.eq_false_iff.mpr cX
      subst cX
      rw [if_neg (show ¬ (false = true) by decide)] at H
      obtain rfl := Option.some.inj H
      refine done_ (done_of hT.out (by kernel_rfl)) ?_
      try go_wp2
      go_ret
      exact ⟨rf_, b2_ HB.out aJ.out aL.out⟩
     have H := HZ.out
     try clear HZ
     subst cX
     rw [if_pos rfl] at H
     have H' := Aside0.mk H
     clear H
     refine done_ (done_of hT.out (by kernel_rfl)) ?_
     try go_wp2
     go_roundg k1
     case measure => have := cZ.out; omega
     case rel => exact ⟨(wrap64 (aA + 1)), rs_, H', ⟨by have := cZ.out; omega⟩, ⟨bk_ aC.out⟩, ⟨b2_ HB.out aJ.out aL.out⟩⟩
    rw [if_pos bU] at H
    have bZ : decide (0 < aA) = true := decide_eq_true bU
    clear bU
    obtain ⟨aP, aW⟩ : ∃ j_ : Int, (wrap64 (aA - 1)) = j_ := ⟨_, rfl⟩
    first | rw [aW] at H | simp only [aW] at H
    (try rw [aW] at A8)
    have dC : (IntKind.i64.wrap (aA - 1)) = aP := (i64_w _).trans aW
    obtain ⟨dS, H⟩ := id_ H
    obtain ⟨dR, H⟩ := id_ H
    have HZ := Aside0.mk H
    clear H
    obtain ⟨aK, aH, aG, bJ, bC, bB, bA, aV, aU, bY, bX⟩ := at3_ HB.out (at_T52 bF.out aA)
    cases bJ
    try go_wp2_with (first | ((with_reducible refine gate_dst (N := 6) rfl ?_); refine box_event rfl (N := 6) rfl (cs := #[.string (⟨#[]⟩ : ByteArray), .string (⟨#[]⟩ : ByteArray), .slice none 0 0]) (t := 52) hr_ ?_; intro aE hg cD hbox hb; have aD := q_ (hbox); have aL := ge_ hg (bs_ HB.out aJ.out); replace HB := q_ (below_step (bs_ HB.out aJ.out) hb); have aF := q_ ((by rw [hg]; exact Nat.ne_of_lt (blk_lt (g := aI) (o := .cells #[.int .i64 aN, .int .i64 aM, .slice (some aK) aB.length aQ] 27 (0, 0)) (bk_ aC.out)) : aI ≠ aE)); have aO := q_ ((by rw [hg]; exact Nat.ne_of_gt (blk_lt (g := aI) (o := .cells #[.int .i64 aN, .int .i64 aM, .slice (some aK) aB.length aQ] 27 (0, 0)) (bk_ aC.out)) : aE ≠ aI)); replace aC := q_ (bb_ aC.out hb); clear hb hbox hg; have dQ := aO.out; have dN := aF.out; obtain ⟨cV, cU, cT, cM, cL, cK⟩ := bx3_ aD.out))
    have bI : Aside0 ((((cD.setCell ⟨aE, 0, none⟩ (.string ((rd_T52 aB aA).f0.f0))).setCell ⟨aE, 1, none⟩ (.string ((rd_T52 aB aA).f0.f1))).setCell ⟨aE, 2, none⟩ (.slice aH ((rd_T52 aB aA).f1).length aG)).heap[aI]? = some (.cells #[.int .i64 aN, .int .i64 aM, .slice (some aK) aB.length aQ] 27 (0, 0))) := ⟨by (with_reducible repeat (first | refine blk_drewN ?_ _ | refine blk_drew ?_ | refine blk_alloc ?_ _)); refine blk_far ?_ aF.out _; (with_reducible repeat (first | refine blk_drewN ?_ _ | refine blk_drew ?_ | refine blk_alloc ?_ _)); refine blk_far ?_ aF.out _; (with_reducible repeat (first | refine blk_drewN ?_ _ | refine blk_drew ?_ | refine blk_alloc ?_ _)); refine blk_far ?_ aF.out _; (with_reducible repeat (first | refine blk_drewN ?_ _ | refine blk_drew ?_ | refine blk_alloc ?_ _)); exact aC.out⟩
    have bH : Aside0 ((((cD.setCell ⟨aE, 0, none⟩ (.string ((rd_T52 aB aA).f0.f0))).setCell ⟨aE, 1, none⟩ (.string ((rd_T52 aB aA).f0.f1))).setCell ⟨aE, 2, none⟩ (.slice aH ((rd_T52 aB aA).f1).length aG)).heap[aE]? = some (.cells #[.string ((rd_T52 aB aA).f0.f0), .string ((rd_T52 aB aA).f0.f1), .slice aH ((rd_T52 aB aA).f1).length aG] 52 (0, 0))) := ⟨by (with_reducible repeat (first | refine blk_drewN ?_ _ | refine blk_drew ?_ | refine blk_alloc ?_ _)); refine blk_put (cs := #[.string ((rd_T52 aB aA).f0.f0), .string ((rd_T52 aB aA).f0.f1), .slice none 0 0]) ?_ 2 _ rfl; (with_reducible repeat (first | refine blk_drewN ?_ _ | refine blk_drew ?_ | refine blk_alloc ?_ _)); refine blk_put (cs := #[.string ((rd_T52 aB aA).f0.f0), .string (⟨#[]⟩ : ByteArray), .slice none 0 0]) ?_ 1 _ rfl; (with_reducible repeat (first | refine blk_drewN ?_ _ | refine blk_drew ?_ | refine blk_alloc ?_ _)); refine blk_put (cs := #[.string (⟨#[]⟩ : ByteArray), .string (⟨#[]⟩ : ByteArray), .slice none 0 0]) ?_ 0 _ rfl; (with_reducible repeat (first | refine blk_drewN ?_ _ | refine blk_drew ?_ | refine blk_alloc ?_ _)); exact aD.out⟩
    have bG : Aside0 (Below w.heap.size w (((cD.setCell ⟨aE, 0, none⟩ (.string ((rd_T52 aB aA).f0.f0))).setCell ⟨aE, 1, none⟩ (.string ((rd_T52 aB aA).f0.f1))).setCell ⟨aE, 2, none⟩ (.slice aH ((rd_T52 aB aA).f1).length aG))) := ⟨b2_ HB.out aJ.out aL.out⟩
    (try clear aC)
    (try clear aD)
    (try clear HB)
    generalize (((cD.setCell ⟨aE, 0, none⟩ (.string ((rd_T52 aB aA).f0.f0))).setCell ⟨aE, 1, none⟩ (.string ((rd_T52 aB aA).f0.f1))).setCell ⟨aE, 2, none⟩ (.slice aH ((rd_T52 aB aA).f1).length aG)) = dW at bI bH bG ⊢
    have aC := bI
    have aD := bH
    have HB := bG
    clear bI bH bG
    replace aC := q_ (blk_drew aC.out)
    replace aD := q_ (blk_drew aD.out)
    replace HB := q_ (below_drew1 HB.out)
    have bQ : 0 ≤ ((aP) : Int) := od_
    have bP : (aP) < (aB.length : Int) := od_
    obtain ⟨cA, bS, bR, dJ, aT, aS, aR, bD, bE⟩ := at_T52 bF.out (aP) bQ bP
    have aX := aR
    have aY := aS
    have aZ := aT
    obtain rfl : aK = cA := (by injection dJ)
    replace aT := hc_ HB.out aT
    replace aS := hc_ HB.out aS
    replace aR := hc_ HB.out aR
    have bL := Aside0.mk bE
    have dA := Aside0.mk bD
    clear bE bD
    replace bQ := eq_true bQ
    replace bP := eq_true bP
    refine sr_ (fun w' => w'.cell? ⟨aE, 0, none⟩ = some (.string ((rd_T52 aB aA).f0.f0)) ∧ w'.cell? ⟨aE, 1, none⟩ = some (.string ((rd_T52 aB aA).f0.f1)) ∧ w'.cell? ⟨aE, 2, none⟩ = some (.slice aH ((rd_T52 aB aA).f1).length aG) ∧ w'.cell? ⟨aI, 0, none⟩ = some (.int .i64 aN) ∧ w'.cell? ⟨aI, 1, none⟩ = some (.int .i64 aM) ∧ w'.cell? ⟨aI, 2, none⟩ = some (.slice (some aK) aB.length aQ) ∧ w'.cell? (aK.add (((aP)).toNat * 3)) = some (.string ((rd_T52 aB (aP)).f0.f0)) ∧ w'.cell? ⟨(aK.add (((aP)).toNat * 3)).block, (aK.add (((aP)).toNat * 3)).off + 1, none⟩ = some (.string ((rd_T52 aB (aP)).f0.f1)) ∧ w'.cell? ⟨(aK.add (((aP)).toNat * 3)).block, (aK.add (((aP)).toNat * 3)).off + 2, none⟩ = some (.slice bS ((rd_T52 aB (aP)).f1).length bR)) [] impl_itemsOk.tab4 impl_itemsOk.bits4 ⟨(blk_cell aD.out 0).trans rfl, (blk_cell aD.out 1).trans rfl, (blk_cell aD.out 2).trans rfl, (blk_cell aC.out 0).trans rfl, (blk_cell aC.out 1).trans rfl, (blk_cell aC.out 2).trans rfl, (hc_ HB.out aZ), (hc_ HB.out aY), (hc_ HB.out aX)⟩ (fun hD hT hW => ?_)
    generalize dW.drew = eM at aC aD HB bL aT aS aR hD ⊢
    refine p_ 0 15 hT ?_; refine k_ 1 16 hT hW hD ?_
    refine oc_ 2 17 (bq_ 3 34) hT Try.func48 #[.agg #[.string ((rd_T52 aB aA).f0.f0), .string ((rd_T52 aB aA).f0.f1)]] ?_
    with_reducible refine (impl_PairOk.calls k1 ((rd_T52 aB aA).f0.f0) ((rd_T52 aB aA).f0.f1) true _ A8.out).mono ?_
    rintro e eL ⟨rfl, hb⟩
    refine ⟨_, rfl, ?_⟩
    replace aC := q_ (bb_ aC.out hb)
    replace aD := q_ (bb_ aD.out hb)
    replace HB := q_ (below_step (b2_ HB.out aJ.out aL.out) hb)
    (try clear hb)
    (try clear cW)
    (try clear hk)
    (try clear hi)
    refine ⟨⟨(blk_cell aD.out 0).trans rfl, (blk_cell aD.out 1).trans rfl, (blk_cell aD.out 2).trans rfl, (blk_cell aC.out 0).trans rfl, (blk_cell aC.out 1).trans rfl, (blk_cell aC.out 2).trans rfl, (hc_ HB.out aZ), (hc_ HB.out aY), (hc_ HB.out aX)⟩, fun hD => nm_ ?_⟩
    refine p_ 3 18 hT ?_; refine p_ 4 19 hT ?_; refine p_ 5 20 hT ?_; refine p_ 6 21 hT ?_; refine p_ 7 22 hT ?_; refine p_ 8 23 hT ?_; refine p_ 9 24 hT ?_; refine p_ 11 26 hT ?_; refine p_ 13 28 hT ?_; refine p_ 14 29 hT ?_; refine k_ 10 25 hT hW hD ?_; refine k_ 12 27 hT hW hD ?_; refine p_ 15 30 hT ?_; refine p_ 16 31 hT ?_; refine p_ 17 32 hT ?_; refine k_ 18 33 hT hW hD ?_; refine p_ 19 34 hT ?_; refine p_ 20 35 hT ?_; refine p_ 21 36 hT ?_; refine p_ 22 37 hT ?_
    by_cases bT : ((Op.bytesLess (((rd_T52 aB (aP)).f0.f0).toList) (((rd_T52 aB aA).f0.f0).toList)) = true)
    rotate_left
    ·
     have H := HZ.out
     try clear HZ
     rw [if_neg bT] at H
     have bK : (Op.bytesLess (((rd_T52 aB (aP)).f0.f0).toList) (((rd_T52 aB aA).f0.f0).toList)) = false := by simpa using bT
     clear bT
     obtain rfl := Option.some.inj H
     first | rw [bK] | skip
     refine u_ 23 38 hT ?_; refine u_ 24 39 hT ?_; refine u_ 25 40 hT ?_; refine u_ 26 41 hT ?_; refine u_ 27 42 hT ?_; refine u_ 28 43 hT ?_; refine u_ 29 44 hT ?_; refine u_ 30 45 hT ?_; refine u_ 31 46 hT ?_; refine u_ 32 47 hT ?_; refine u_ 33 48 hT ?_; refine u_ 34 49 hT ?_; refine u_ 35 50 hT ?_; refine p_ 36 51 hT ?_
     refine done_ (done_of hT.out (by kernel_rfl)) ?_
     try go_wp2
     go_ret
     exact ⟨by first | rfl | (simp [errW_none, errW_some] <;> rfl) | (simp only [← aW]; first | rfl | (simp [errW_none, errW_some] <;> rfl)) | (simp [*, errW_none, errW_some] <;> rfl), b2_ HB.out aJ.out aL.out⟩
    have H := HZ.out
    try clear HZ
    rw [if_pos bT] at H
    have bK : (Op.bytesLess (((rd_T52 aB (aP)).f0.f0).toList) (((rd_T52 aB aA).f0.f0).toList)) = true := bT
    clear bT
    obtain ⟨bW, eE, H⟩ := bo_ H
    have HZ := Aside0.mk H
    clear H
    first | rw [bK] | skip
    refine p_ 23 38 hT ?_; refine p_ 25 40 hT ?_; refine p_ 27 42 hT ?_; refine p_ 29 44 hT ?_; refine p_ 31 46 hT ?_; refine p_ 33 48 hT ?_; refine k_ 24 39 hT hW hD ?_; refine k_ 26 41 hT hW hD ?_; refine p_ 28 43 hT ?_; refine k_ 30 45 hT hW hD ?_; refine k_ 32 47 hT hW hD ?_
    refine oc_ 34 49 (bq_ 35 2) hT Try.func49 #[.agg #[.string ((rd_T52 aB aA).f0.f0), .string ((rd_T52 aB aA).f0.f1)], .int .i64 (wrap64 (aM + aA)), .int .i64 aN, .slice aH ((rd_T52 aB aA).f1).length aG, .string a0] ?_
    with_reducible refine (impl_CheckPath.calls k1 ((rd_T52 aB aA).f0.f0) ((rd_T52 aB aA).f0.f1) (wrap64 (aM + aA)) aN _ _ ((rd_T52 aB aA).f1) a0 bW _ ?side1 ?side2 eE.out).mono ?_
    (case side1 => exact kc_ (Kd.C_below aU.out HB.out))
    (case side2 => exact aV.out)
    rintro e eK ⟨rfl, hb⟩
    refine ⟨_, rfl, ?_⟩
    replace aC := q_ (bb_ aC.out hb)
    replace aD := q_ (bb_ aD.out hb)
    replace HB := q_ (below_step (b2_ HB.out aJ.out aL.out) hb)
    (try clear hb)
    (try clear cW)
    (try clear hk)
    (try clear hi)
    refine ⟨⟨(blk_cell aD.out 0).trans rfl, (blk_cell aD.out 1).trans rfl, (blk_cell aD.out 2).trans rfl, (blk_cell aC.out 0).trans rfl, (blk_cell aC.out 1).trans rfl, (blk_cell aC.out 2).trans rfl, (hc_ HB.out aZ), (hc_ HB.out aY), (hc_ HB.out aX)⟩, fun hD => nm_ ?_⟩
    refine p_ 35 50 hT ?_; refine p_ 36 51 hT ?_
    by_cases cY : bW = true
    rotate_left
    ·
     have H := HZ.out
     try clear HZ
     replace cY := Bool.eq_false_iff.mpr cY
     subst cY
     rw [if_neg (show ¬ (false = true) by decide)] at H
     obtain rfl := Option.some.inj H
     refine done_ (done_of hT.out (by kernel_rfl)) ?_
     try go_wp2
     go_ret
     exact ⟨by first | rfl | (simp [errW_none, errW_some] <;> rfl) | (simp only [← aW]; first | rfl | (simp [errW_none, errW_some] <;> rfl)) | (simp [*, errW_none, errW_some] <;> rfl), b2_ HB.out aJ.out aL.out⟩
    have H := HZ.out
    try clear HZ
    subst cY
    rw [if_pos rfl] at H
    have H' := Aside0.mk H
    clear H
    refine done_ (done_of hT.out (by kernel_rfl)) ?_
    try go_wp2
    go_roundg k1
    case measure => have := cZ.out; omega
    case rel => exact ⟨(wrap64 (aA + 1)), rs_, H', ⟨by have := cZ.out; omega⟩, ⟨bk_ aC.out⟩, ⟨b2_ HB.out aJ.out aL.out⟩⟩
   ·
    rw [if_neg c5] at H
    have dK := decide_eq_false c5
    clear c5
    obtain rfl := Option.some.inj H
    go_wp2
    go_ret
    exact ⟨rf_, bs_ HB.out aJ.out⟩
end Go.Proofs.Ytgmfhchhbidlnaa.P
