import Derived.Test.YtgmfhchhbidlnaaPx0
import Derived.Test.YtgmfhchhbidlnaaPx1
import Derived.Test.YtgmfhchhbidlnaaPx7
namespace Go.Proofs.Ytgmfhchhbidlnaa.P
open Go.RowKit Go.Proofs.YtgmfhchhbidlnaaW.PrintWords Go.Proofs.YtgmfhchhbidlnaaW.PrintLast Go.Proofs.YtgmfhchhbidlnaaW.PrintMore
attribute [local go_sem] max2_int min2_int max_two min_two max_three min_three max_four min_four
set_option linter.unusedVariables false
set_option maxHeartbeats 8000000
set_option maxRecDepth 100000
set_option linter.unusedSimpArgs false
def spec_l1Once.f (aD : List Int) (aC : Int) (aB : Int) (a1 : Int) : Option (Bool × Int × Int) := (spec_l1Below.f aD aC aB a1).bind fun aA => (some ((aA.1 == 0), aA.2.1, aA.2.2))
theorem spec_l1Once.calls (g : Nat) (aA : List Int) (aC : Int) (aB : Int) (a1 : Int) (r1 : Bool) (r2 : Int) (r3 : Int) (w0 w : World) (hI : IsS61 w0 w g aA aC aB) (hB : Below w0.heap.size w0 w) (h : spec_l1Once.f aA aC aB a1 = some (r1, r2, r3)) :
 Calls Try.prog 18 #[.pointer (some ⟨g, 0, none⟩), .int .i64 a1] w fun e w' => e = .returned (.bool r1) ∧ IsS61 w0 w' g aA r2 r3 ∧ Below w0.heap.size w0 w' ∧ KeepBut w w' g none := by
 have aD := Aside0.mk hI
 have HK := q_ (KeepBut.refl w g none)
 have HL := Aside0.mk hB.size
 clear hI
 have aH := Aside0.mk hB.size
 have HB := Aside0.mk hB
 clear hB
 have H := h
 clear h
 unfold spec_l1Once.f at H
 obtain ⟨⟨aG, aF, aE⟩, A3, H⟩ := bo_ H; try dsimp only at H
 simp only [Option.some.injEq, Prod.mk.injEq] at H
 obtain ⟨rfl, rfl, rfl⟩ := H
 go_enter Try.func18, Try.ntmps18
 go_wp2_with (first | ((with_reducible refine gate_callee (f := 36) rfl ?_); refine gl_ (some 7) Try.func36 #[.pointer (some ⟨g, 0, none⟩), .int .i64 a1] rfl al_ ?_; (with_reducible refine (spec_l1Below.calls g aA aC aB a1 aG aF aE w0 _ ?side1 ?side2 A3.out).mono ?_); (case side1 => repeat (first | (with_reducible first | exact aD.out | apply IsS61.alloc | apply IsS61.drewN | apply IsS61.drew | apply IsS61.set_1 | apply IsS61.set_2) | exact aD.out)); (case side2 => repeat (first | (with_reducible first | exact HB.out | apply below_alloc | apply pw_below_drewN | apply below_drew1 | refine below_set ?_ (IsS61.ge aD.out)) | exact HB.out)); rintro e w4 ⟨rfl, hi, hb, hk⟩; refine ⟨_, rfl, ?_⟩; replace HK := q_ (KeepBut.trans (by repeat (first | (with_reducible first | exact HK.out | apply KeepBut.set_ | apply keep_drewN | apply keep_drew | apply keep_alloc) | exact HK.out)) hk (.inl rfl)); replace HB := q_ (hb); replace aD := q_ (hi); (try clear hb); (try clear hk); (try clear hi)))
 go_ret
 exact ⟨rf_, by repeat (first | (with_reducible first | exact aD.out | apply IsS61.alloc | apply IsS61.drewN | apply IsS61.drew | apply IsS61.set_1 | apply IsS61.set_2) | exact aD.out), bs_ HB.out (IsS61.ge aD.out), by repeat (first | (with_reducible first | exact HK.out | apply KeepBut.set_ | apply keep_drewN | apply keep_drew | apply keep_alloc) | exact HK.out)⟩
def spec_l5Copy.l0 : Nat → Int → Int → Int → List (S52) → Int → Int → List (S52) → Option (Int × Int × (List (S52)))
 | 0, _, _, _, _, _, _, _ => none
 | k + 1, x4, aF, aE, aA, aD, aC, aB => if x4 < (aA.length : Int) then (if 0 ≤ x4 then ((some (([] : List ByteArray) : List ByteArray)).bind fun aG => (if aG.length + ((rd_T52 aA x4).f1).length < 8796093022208 then (if aB.length < 2513169434916 then (spec_l5Copy.l0 k (wrap64 (x4 + 1)) aF aE aA aD aC (aB ++ [(⟨(⟨(rd_T52 aA x4).f0.f0, (rd_T52 aA x4).f0.f1⟩ : S45), (aG ++ ((rd_T52 aA x4).f1))⟩ : S52)])) else (none)) else (none))) else (none)) else (some (aD, aC, aB))
def spec_l5Copy.f (k : Nat) (aB : Int) (aA : Int) (aC : List (S52)) : Option (Int × Int × (List (S52))) := spec_l5Copy.l0 k 0 aB aA aC aB aA ([] : List (S52))
def spec_l5Copy.T5 : Bool × List (List Nat × List Nat) := (true, [([], []), ([0], [0]), ([], []), ([2], [2]), ([], []), ([3, 4], [3, 4]), ([5], [5]), ([6], [6]), ([], []), ([], []), ([9], [9]), ([], []), ([10, 11], [10, 11]), ([12], [12]), ([13], [13]), ([8, 14], [8, 14]), ([7, 15], [7, 15]), ([16], [16]), ([1, 17, 15], [1, 17]), ([0, 1, 2, 3, 4, 5, 6, 7, 8, 9, 10, 11, 12, 13, 14, 15, 16, 17, 18], []), ([19, 18, 18, 0, 1, 2, 3, 4, 5, 6, 7, 8, 9, 10, 11, 12, 13, 14, 15, 16, 17, 18], [18, 19])])
def spec_l5Copy.B5 : List Nat := [0, 1, 0, 4, 0, 28, 60, 124, 0, 0, 512, 0, 3584, 7680, 15872, 32512, 65532, 131068, 262143, 524287, 1048575]
theorem spec_l5Copy.tab5 : rtab .any (opsOf Try.f43 5) = spec_l5Copy.T5 := by kernel_rfl
theorem spec_l5Copy.bits5 : waitsOk spec_l5Copy.T5.2 spec_l5Copy.B5 = true := by kernel_rfl
theorem spec_l5Copy.calls (k : Nat) (aN : Int) (aQ : Int) (bS : Option Addr) (bQ : Nat) (aH : List (S52)) (r1 : Int) (r2 : Int) (r3 : List (S52)) (w : World) (cG : Kd.C k52 w bS aH.length aH) (cH : aH.length ≤ bQ) (h : spec_l5Copy.f k aN aQ aH = some (r1, r2, r3)) :
 Calls Try.prog 43 #[.agg #[.int .i64 aN, .int .i64 aQ, .slice bS aH.length bQ]] w fun e w' => ∃ v2_ : Value, e = .returned (.agg #[.int .i64 r1, .int .i64 r2, v2_]) ∧ Kd.S k52 52 w' w.heap.size (fun _ => True) v2_ r3 ∧ Below w.heap.size w w' := by
 have gG := Try.underlying27
 have gF := Try.underlying45
 have gE := Try.underlying52
 have cJ := Aside0.mk cG
 have gA := Aside0.mk cH
 clear cG cH
 have HB := q_ (Below.refl w.heap.size w)
 have H := h
 clear h
 unfold spec_l5Copy.f at H
 have H' := Aside0.mk H
 clear H
 go_enter Try.func43, Try.ntmps43
 go_wp2_with (first | ((with_reducible refine gate_dst (N := 1) rfl ?_); refine box_event rfl (N := 1) rfl (cs := #[.int .i64 aN, .int .i64 aQ, .slice bS aH.length bQ]) (t := 27) hr_ ?_; intro aT hg w2 hbox hb; have aA := q_ (hbox); have aW := ge_ hg (be_ HB.out); replace HB := q_ (below_step (be_ HB.out) hb); clear hb hbox hg) | ((with_reducible refine gate_dst (N := 2) rfl ?_); refine box_event rfl (N := 2) rfl (cs := #[.int .i64 0, .int .i64 0, .slice none 0 0]) (t := 27) hr_ ?_; intro aV hg w3 hbox hb; have aG := q_ (hbox); have aY := ge_ hg (bs_ HB.out aW.out); replace HB := q_ (below_step (bs_ HB.out aW.out) hb); have bL := q_ ((by rw [hg]; exact Nat.ne_of_lt (blk_lt (g := aT) (o := .cells #[.int .i64 aN, .int .i64 aQ, .slice bS aH.length bQ] 27 (0, 0)) (bk_ aA.out)) : aT ≠ aV)); have bK := q_ ((by rw [hg]; exact Nat.ne_of_gt (blk_lt (g := aT) (o := .cells #[.int .i64 aN, .int .i64 aQ, .slice bS aH.length bQ] 27 (0, 0)) (bk_ aA.out)) : aV ≠ aT)); replace aA := q_ (bb_ aA.out hb); clear hb hbox hg; have gN := bL.out; have gK := bK.out; obtain ⟨fD, fC, fB, eX, eW, eV⟩ := bx3_ aA.out) | ((with_reducible refine gate_dst (N := 3) rfl ?_); refine box_event rfl (N := 3) rfl (cs := #[.int .i64 0, .int .i64 0, .slice none 0 0]) (t := 27) hr_ ?_; intro aX hg w6 hbox hb; have aD := q_ (hbox); have bI := ge_ hg (b2_ HB.out aW.out aY.out); replace HB := q_ (below_step (b2_ HB.out aW.out aY.out) hb); have aI := q_ ((by rw [hg]; exact Nat.ne_of_lt (blk_lt (g := aT) (o := .cells #[.int .i64 aN, .int .i64 aQ, .slice bS aH.length bQ] 27 (0, 0)) (bk_ aA.out)) : aT ≠ aX)); have bF := q_ ((by rw [hg]; exact Nat.ne_of_gt (blk_lt (g := aT) (o := .cells #[.int .i64 aN, .int .i64 aQ, .slice bS aH.length bQ] 27 (0, 0)) (bk_ aA.out)) : aX ≠ aT)); replace aA := q_ (bb_ aA.out hb); have aM := q_ ((by rw [hg]; exact Nat.ne_of_lt (blk_lt (g := aV) (o := .cells #[.int .i64 0, .int .i64 0, .slice none 0 0] 27 (0, 0)) (bk_ aG.out)) : aV ≠ aX)); have bJ := q_ ((by rw [hg]; exact Nat.ne_of_gt (blk_lt (g := aV) (o := .cells #[.int .i64 0, .int .i64 0, .slice none 0 0] 27 (0, 0)) (bk_ aG.out)) : aX ≠ aV)); replace aG := q_ (bb_ aG.out hb); clear hb hbox hg; have gM := bF.out; have gJ := aI.out; have gL := bJ.out; have gI := aM.out; obtain ⟨fA, eZ, eY, eU, eT, eS⟩ := bx3_ aD.out))
 go_loopg [4] k (fun kq v4 w' => ∃ (aE : Int) (aK : List (S52)) (aJ : Value), v4 = .int .i64 aE ∧ Aside0 (spec_l5Copy.l0 kq aE aN aQ aH aN aQ aK = some (r1, r2, r3)) ∧ Aside0 (kq ≤ k) ∧ Aside0 (Kd.S k52 52 w' w.heap.size (fun _ => True) aJ aK) ∧ Aside0 (w'.heap[aT]? = some (.cells #[.int .i64 aN, .int .i64 aQ, (.slice bS aH.length bQ)] 27 (0, 0))) ∧ Aside0 (w'.heap[aV]? = some (.cells #[.int .i64 0, .int .i64 0, (.slice none 0 0)] 27 (0, 0))) ∧ Aside0 (w'.heap[aX]? = some (.cells #[.int .i64 aN, .int .i64 aQ, aJ] 27 (0, 0))) ∧ Aside0 (Below w.heap.size w w'))
 case atStart => exact ⟨(0), (([] : List (S52))), (.slice none 0 0), rs_, H', ⟨Nat.le_refl _⟩, ⟨by first | exact Kd.S_nil _ _ _ _ _ | exact Kd.N_nil _ _ _ _ _ | exact Kd.V_nil _ _ _ _ _ | exact Kd.Q_nil _ _ _ _ _ | exact Kd.R_nil _ _ _ _ _⟩, ⟨by (with_reducible repeat (first | refine blk_drewN ?_ _ | refine blk_drew ?_ | refine blk_alloc ?_ _)); refine blk_far ?_ aI.out _; (with_reducible repeat (first | refine blk_drewN ?_ _ | refine blk_drew ?_ | refine blk_alloc ?_ _)); refine blk_far ?_ aI.out _; (with_reducible repeat (first | refine blk_drewN ?_ _ | refine blk_drew ?_ | refine blk_alloc ?_ _)); refine blk_far ?_ aI.out _; (with_reducible repeat (first | refine blk_drewN ?_ _ | refine blk_drew ?_ | refine blk_alloc ?_ _)); exact aA.out⟩, ⟨by (with_reducible repeat (first | refine blk_drewN ?_ _ | refine blk_drew ?_ | refine blk_alloc ?_ _)); refine blk_far ?_ aM.out _; (with_reducible repeat (first | refine blk_drewN ?_ _ | refine blk_drew ?_ | refine blk_alloc ?_ _)); refine blk_far ?_ aM.out _; (with_reducible repeat (first | refine blk_drewN ?_ _ | refine blk_drew ?_ | refine blk_alloc ?_ _)); refine blk_far ?_ aM.out _; (with_reducible repeat (first | refine blk_drewN ?_ _ | refine blk_drew ?_ | refine blk_alloc ?_ _)); exact aG.out⟩, ⟨by (with_reducible repeat (first | refine blk_drewN ?_ _ | refine blk_drew ?_ | refine blk_alloc ?_ _)); refine blk_put (cs := #[.int .i64 aN, .int .i64 aQ, .slice none 0 0]) ?_ 2 _ rfl; (with_reducible repeat (first | refine blk_drewN ?_ _ | refine blk_drew ?_ | refine blk_alloc ?_ _)); refine blk_put (cs := #[.int .i64 aN, .int .i64 0, .slice none 0 0]) ?_ 1 _ rfl; (with_reducible repeat (first | refine blk_drewN ?_ _ | refine blk_drew ?_ | refine blk_alloc ?_ _)); refine blk_put (cs := #[.int .i64 0, .int .i64 0, .slice none 0 0]) ?_ 0 _ rfl; (with_reducible repeat (first | refine blk_drewN ?_ _ | refine blk_drew ?_ | refine blk_alloc ?_ _)); exact aD.out⟩, ⟨b3_ HB.out aW.out aY.out bI.out⟩⟩
 case round =>
  clear H'
  obtain ⟨aE, aK, aJ, rfl, HA, fZ, aC, aA, aG, aD, HB⟩ := hrel
  cases gk with
  | zero => exact absurd HA.out (by simp [spec_l5Copy.l0])
  | succ k1 =>
   have H := HA.out
   clear HA
   simp only [spec_l5Copy.l0] at H
   by_cases cQ : aE < (aH.length : Int)
   ·
    rw [if_pos cQ] at H
    have dE := decide_eq_true cQ
    clear cQ
    obtain ⟨fY, H⟩ := id_ H
    obtain ⟨cR, cI, H⟩ := by_ H
    obtain ⟨dJ, H⟩ := ia_ H
    obtain ⟨cA, cC⟩ : ∃ y_ : List ByteArray, y_ = (cR ++ ((rd_T52 aH aE).f1)) := ⟨_, rfl⟩
    rw [← cC] at H
    have dH := Aside0.mk cC
    clear cC
    obtain ⟨dI, H⟩ := ia_ H
    obtain ⟨cL, cB⟩ : ∃ y_ : List (S52), y_ = (aK ++ [(⟨(⟨(rd_T52 aH aE).f0.f0, (rd_T52 aH aE).f0.f1⟩ : S45), cA⟩ : S52)]) := ⟨_, rfl⟩
    rw [← cB] at H
    have dG := Aside0.mk cB
    clear cB
    have H' := Aside0.mk H
    clear H
    have fW := bL.out
    have fR := bK.out
    have fV := aI.out
    have fQ := bF.out
    obtain ⟨eO, eN, eM, eC, eB, eA⟩ := bx3_ aA.out
    try go_wp2
    replace aC := q_ (Kd.S_drew aC.out)
    replace aA := q_ (blk_drew aA.out)
    replace aG := q_ (blk_drew aG.out)
    replace aD := q_ (blk_drew aD.out)
    replace HB := q_ (below_drew1 HB.out)
    have cP : 0 ≤ (aE : Int) := od_
    have cN : aE < (aH.length : Int) := od_
    obtain ⟨aU, cE, cD, fJ, bP, bO, bH, bU, bW⟩ := at_T52 cJ.out aE cP cN
    have bC := bH
    have bD := bO
    have bE := bP
    cases fJ
    replace bP := hc_ HB.out bP
    replace bO := hc_ HB.out bO
    replace bH := hc_ HB.out bH
    have cF := Aside0.mk bW
    have eQ := Aside0.mk bU
    clear bW bU
    replace cP := eq_true cP
    replace cN := eq_true cN
    have cO : 0 ≤ (aE : Int) := od_
    have cM : aE < (aH.length : Int) := od_
    obtain ⟨dF, fL, fK, fI, bN, bM, bG, bT, bV⟩ := at_T52 cJ.out aE cO cM
    have aZ := bG
    have bA := bM
    have bB := bN
    obtain rfl : aU = dF := (by injection fI)
    replace bN := hc_ HB.out bN
    replace bM := hc_ HB.out bM
    replace bG := hc_ HB.out bG
    have bX := Aside0.mk bV
    have eP := Aside0.mk bT
    clear bV bT
    replace cO := eq_true cO
    replace cM := eq_true cM
    have ea_ := Option.some.inj (bH.symm.trans bG)
    injection ea_ with ea_ en_ ec_
    subst ea_
    subst ec_
    clear en_
    refine sr_ (fun w' => w'.cell? ⟨aX, 0, none⟩ = some (.int .i64 aN) ∧ w'.cell? ⟨aX, 1, none⟩ = some (.int .i64 aQ) ∧ w'.cell? ⟨aX, 2, none⟩ = some (aJ) ∧ w'.cell? ⟨aT, 0, none⟩ = some (.int .i64 aN) ∧ w'.cell? ⟨aT, 1, none⟩ = some (.int .i64 aQ) ∧ w'.cell? ⟨aT, 2, none⟩ = some (.slice (some aU) aH.length bQ) ∧ w'.cell? (aU.add ((aE).toNat * 3)) = some (.string ((rd_T52 aH aE).f0.f0)) ∧ w'.cell? ⟨(aU.add ((aE).toNat * 3)).block, (aU.add ((aE).toNat * 3)).off + 1, none⟩ = some (.string ((rd_T52 aH aE).f0.f1)) ∧ w'.cell? ⟨(aU.add ((aE).toNat * 3)).block, (aU.add ((aE).toNat * 3)).off + 2, none⟩ = some (.slice cE ((rd_T52 aH aE).f1).length cD) ∧ w'.cell? (aU.add ((aE).toNat * 3)) = some (.string ((rd_T52 aH aE).f0.f0)) ∧ w'.cell? ⟨(aU.add ((aE).toNat * 3)).block, (aU.add ((aE).toNat * 3)).off + 1, none⟩ = some (.string ((rd_T52 aH aE).f0.f1)) ∧ w'.cell? ⟨(aU.add ((aE).toNat * 3)).block, (aU.add ((aE).toNat * 3)).off + 2, none⟩ = some (.slice cE ((rd_T52 aH aE).f1).length cD)) [20] spec_l5Copy.tab5 spec_l5Copy.bits5 ⟨(blk_cell aD.out 0).trans rfl, (blk_cell aD.out 1).trans rfl, (blk_cell aD.out 2).trans rfl, (blk_cell aA.out 0).trans rfl, (blk_cell aA.out 1).trans rfl, (blk_cell aA.out 2).trans rfl, (hc_ HB.out bE), (hc_ HB.out bD), (hc_ HB.out bC), (hc_ HB.out bB), (hc_ HB.out bA), (hc_ HB.out aZ)⟩ (fun hD hT hW => ?_)
    generalize wr.drew = gQ at aC aA aG aD HB cF bX bP bO bH bN bM bG hD ⊢
    refine p_ 0 17 hT ?_; refine p_ 2 19 hT ?_; refine p_ 4 21 hT ?_; refine p_ 9 26 hT ?_; refine p_ 11 28 hT ?_; refine k_ 1 18 hT hW hD ?_; refine k_ 3 20 hT hW hD ?_; refine p_ 5 22 hT ?_; refine p_ 6 23 hT ?_; refine k_ 7 24 hT hW hD ?_; refine k_ 10 27 hT hW hD ?_; refine p_ 12 29 hT ?_; refine p_ 13 30 hT ?_; refine k_ 14 31 hT hW hD ?_
    refine on_ 8 (some 25) (bq_ 15 6) hT (fun K hK => ?_)
    refine Kd.R_lit_step Kd.string _ 9 ?hg (N := 25) ?hd (xs := ([] : List ByteArray)) (inner := []) (ok := fun _ => True) (okp := fun _ => True) ?hr ?hp (fun _ hk => hk) trivial (Below.refl _ _) (Nat.le_refl _) (by simp) ?_; (case hd => rfl); (case hg => rfl); (case hr => first | (go_simp; done) | (go_simp; rfl)); (case hp => exact (Reps.none _ _))
    intro eR gP bZ hb hg_ hnew_
    clear hg_ hnew_
    (first | rw [← cI.out] at bZ | (simp only [Int.reduceToNat] at bZ; rw [← cI.out] at bZ))
    replace aC := q_ (Kd.S_elder' (ks_ aC.out) (Kd.R_base bZ) hb)
    have bR := q_ (Kd.R_lower bZ (below_size (b3_ HB.out aW.out aY.out bI.out)))
    replace aA := q_ (bb_ aA.out hb)
    replace aG := q_ (bb_ aG.out hb)
    replace aD := q_ (bb_ aD.out hb)
    replace HB := q_ (below_step (b3_ HB.out aW.out aY.out bI.out) hb)
    clear hb bZ
    refine hK.out _ _ ⟨(blk_cell aD.out 0).trans rfl, (blk_cell aD.out 1).trans rfl, (blk_cell aD.out 2).trans rfl, (blk_cell aA.out 0).trans rfl, (blk_cell aA.out 1).trans rfl, (blk_cell aA.out 2).trans rfl, (hc_ HB.out bE), (hc_ HB.out bD), (hc_ HB.out bC), (hc_ HB.out bB), (hc_ HB.out bA), (hc_ HB.out aZ)⟩ (fun hD => ?_)
    clear hK K
    refine nm_ ?_
    refine on_ 15 (some 32) (bq_ 16 5) hT (fun K hK => ?_)
    refine Kd.R_append_rows_step Kd.string (w0 := w) w.heap.size (by rfl) (.tmp 25) (.tmp 31) 50 9 (.string ⟨#[]⟩) 16 rfl Try.underlying50 info9 rfl (by decide) (by omega) eR cR ((rd_T52 aH aE).f1) _ _ _ (fun _ => True) (fun _ => False) rfl rfl ?aO ?aR (fun _ _ h => h) (fun _ h => h.elim) ?aF ?aB ?aS ?aL ?_
    (case aR => exact kc_ (Kd.C_below bX.out HB.out))
    (case aB => exact (b3_ HB.out aW.out aY.out bI.out))
    (case aF => exact (fun _ _ => trivial))
    (case aO => exact (kr_ bR.out))
    (case aS => exact (below_size (b3_ HB.out aW.out aY.out bI.out)))
    (case aL => have := dJ.out; omega)
    intro gD gO ho hb hg hat
    rw [← dH.out] at ho
    have cW := q_ (Kd.S_after (ok := (fun _ => True)) (ks_ aC.out) hg hat)
    have cV := q_ (blk_grown (g := aT) (o := .cells #[.int .i64 aN, .int .i64 aQ, .slice (some aU) aH.length bQ] 27 (0, 0)) (bk_ aA.out) hg (Kd.R_ne bR.out aA.out (by decide)))
    have cU := q_ (blk_grown (g := aV) (o := .cells #[.int .i64 0, .int .i64 0, .slice none 0 0] 27 (0, 0)) (bk_ aG.out) hg (Kd.R_ne bR.out aG.out (by decide)))
    have cT := q_ (blk_grown (g := aX) (o := .cells #[.int .i64 aN, .int .i64 aQ, aJ] 27 (0, 0)) (bk_ aD.out) hg (Kd.R_ne bR.out aD.out (by decide)))
    have cS := q_ (hb)
    have fM := q_ (ho)
    clear aC
    clear aA
    clear aG
    clear aD
    clear HB
    clear bR
    have aC := cW
    have aA := cV
    have aG := cU
    have aD := cT
    have HB := cS
    have bY := fM
    clear cW cV cU cT cS fM
    clear ho hb hg hat
    obtain ⟨dM, dD, dA⟩ := Kd.R_slice bY.out
    (first | subst dA | (injection dA with cY fG cX; have fF := cY.symm; have fE := cX.symm; clear cY fG cX; subst fF; subst fE))
    refine hK.out _ _ ⟨(blk_cell aD.out 0).trans rfl, (blk_cell aD.out 1).trans rfl, (blk_cell aD.out 2).trans rfl, (blk_cell aA.out 0).trans rfl, (blk_cell aA.out 1).trans rfl, (blk_cell aA.out 2).trans rfl, (hc_ HB.out bE), (hc_ HB.out bD), (hc_ HB.out bC), (hc_ HB.out bB), (hc_ HB.out bA), (hc_ HB.out aZ)⟩ (fun hD => ?_)
    clear hK K
    refine nm_ ?_
    refine p_ 16 33 hT ?_
    refine on_ 17 (some 34) (bq_ 18 3) hT (fun K hK => ?_)
    refine value_ (w1 := ?_) (v := ?_) (by rfl) rfl ?_ ?_
    rotate_left 2
    · go_simp
      constructor
      · rfl
      · rfl
    refine hK.out _ _ ⟨(blk_cell (blk_alloc aD.out _) 0).trans rfl, (blk_cell (blk_alloc aD.out _) 1).trans rfl, (blk_cell (blk_alloc aD.out _) 2).trans rfl, (blk_cell (blk_alloc aA.out _) 0).trans rfl, (blk_cell (blk_alloc aA.out _) 1).trans rfl, (blk_cell (blk_alloc aA.out _) 2).trans rfl, (World.cell?_alloc_lt _ _ _ (World.block_lt_of_cell? _ _ ((hc_ HB.out bE)))).trans ((hc_ HB.out bE)), (World.cell?_alloc_lt _ _ _ (World.block_lt_of_cell? _ _ ((hc_ HB.out bD)))).trans ((hc_ HB.out bD)), (World.cell?_alloc_lt _ _ _ (World.block_lt_of_cell? _ _ ((hc_ HB.out bC)))).trans ((hc_ HB.out bC)), (World.cell?_alloc_lt _ _ _ (World.block_lt_of_cell? _ _ ((hc_ HB.out bB)))).trans ((hc_ HB.out bB)), (World.cell?_alloc_lt _ _ _ (World.block_lt_of_cell? _ _ ((hc_ HB.out bA)))).trans ((hc_ HB.out bA)), (World.cell?_alloc_lt _ _ _ (World.block_lt_of_cell? _ _ ((hc_ HB.out aZ)))).trans ((hc_ HB.out aZ))⟩ (fun hD => ?_)
    clear hK K
    refine nm_ ?_
    refine on_ 18 (some 35) (bq_ 19 2) hT (fun K hK => ?_)
    refine Kd.S_append_step k52 (w0 := w) w.heap.size (by rfl) (.tmp 18) (.tmp 34) 25 52 (.agg #[(.string ⟨#[]⟩), (.string ⟨#[]⟩), (.slice none 0 0)]) 56 rfl Try.underlying25 info52 rfl (by decide) (by omega) aJ aK (⟨(⟨(rd_T52 aH aE).f0.f0, (rd_T52 aH aE).f0.f1⟩ : S45), cA⟩ : S52) [.string ((rd_T52 aH aE).f0.f0), .string ((rd_T52 aH aE).f0.f1), .slice dM cA.length dD] (fun _ => True) (fun k_ => some k_ = (.slice dM cA.length dD : Value).ownBlock) rfl rfl ?aP (fun k_ hk_ => ((Kd.R_mono (ok' := fun k_ => ((fun _ => True)) k_ ∧ some k_ ≠ (aJ : Value).ownBlock) (Kd.R_apart' (bY.out) (Kd.S_typed aC.out) (by decide)) (fun k_ hk => ⟨trivial, hk.2⟩))).1 k_ hk_.symm) ?aF ?aO ?aB ?aS ?aL ?_
    (case aP => exact k52_mkM _ _ _ (⟨(⟨(rd_T52 aH aE).f0.f0, (rd_T52 aH aE).f0.f1⟩ : S45), cA⟩ : S52) (Kd.R_mono (Kd.R_tight rfl (Kd.R_mono (ok' := fun k_ => ((fun _ => True)) k_ ∧ some k_ ≠ (aJ : Value).ownBlock) (Kd.R_apart' (bY.out) (Kd.S_typed aC.out) (by decide)) (fun k_ hk => ⟨trivial, hk.2⟩))) (fun _ h_ => h_)))
    (case aB => exact (b3_ HB.out aW.out aY.out bI.out))
    (case aF => exact (fun _ _ => trivial))
    (case aO => exact (by (with_reducible repeat (first | apply Kd.S_alloc | apply Kd.S_drewN | apply Kd.S_drew)); exact Kd.S_mono aC.out (fun k_ hk => ⟨trivial, fun e_ => hk.2 e_⟩)))
    (case aS => exact (below_size (b3_ HB.out aW.out aY.out bI.out)))
    (case aL => have := dI.out; omega)
    intro gC gB ho hb hg hat
    rw [← dG.out] at ho
    have cW := q_ (blk_grown (g := aT) (o := .cells #[.int .i64 aN, .int .i64 aQ, .slice (some aU) aH.length bQ] 27 (0, 0)) (bk_ aA.out) hg (Kd.S_ne aC.out aA.out (by decide)))
    have cV := q_ (blk_grown (g := aV) (o := .cells #[.int .i64 0, .int .i64 0, .slice none 0 0] 27 (0, 0)) (bk_ aG.out) hg (Kd.S_ne aC.out aG.out (by decide)))
    have cU := q_ (blk_grown (g := aX) (o := .cells #[.int .i64 aN, .int .i64 aQ, aJ] 27 (0, 0)) (bk_ aD.out) hg (Kd.S_ne aC.out aD.out (by decide)))
    have cT := q_ (hb)
    have cS := q_ (ho)
    clear aA
    clear aG
    clear aD
    clear HB
    clear aC
    clear bY
    have aA := cW
    have aG := cV
    have aD := cU
    have HB := cT
    have cK := cS
    clear cW cV cU cT cS
    clear ho hb hg hat
    obtain ⟨dL, dC, cZ⟩ := Kd.S_slice cK.out
    (first | subst cZ | (injection cZ with cY fG cX; have fF := cY.symm; have fE := cX.symm; clear cY fG cX; subst fF; subst fE))
    refine hK.out _ _ ⟨(blk_cell aD.out 0).trans rfl, (blk_cell aD.out 1).trans rfl, (blk_cell aD.out 2).trans rfl, (blk_cell aA.out 0).trans rfl, (blk_cell aA.out 1).trans rfl, (blk_cell aA.out 2).trans rfl, (hc_ HB.out bE), (hc_ HB.out bD), (hc_ HB.out bC), (hc_ HB.out bB), (hc_ HB.out bA), (hc_ HB.out aZ)⟩ (fun hD => ?_)
    clear hK K
    refine nm_ ?_
    refine p_ 19 36 hT ?_
    refine last_ (i := 20) (N := none) (bq_ 21 0) rfl rfl (one_of hT.out (by kernel_rfl)) (by decide) (fun K hK => ?_)
    have gH : gB.cell? ⟨aX, 2, none⟩ = some (aJ) := (blk_cell aD.out 2).trans rfl
    have fX := blk_frozen aD.out 2
    have dO := aI.out
    have dN := aM.out
    have dQ := bF.out
    have dP := bJ.out
    refine skip_ (w1 := ?_) (by rfl) rfl ?_ ?_
    rotate_left
    · go_simp
      rfl
    refine hK.out _ _ ?_
    clear hK K
    refine done_ (done_of hT.out (by kernel_rfl)) ?_
    try go_wp2
    go_roundg k1
    case measure => have := fZ.out; omega
    case rel => exact ⟨(wrap64 (aE + 1)), (cL), (.slice dL cL.length dC), rs_, H', ⟨by have := fZ.out; omega⟩, ⟨by (with_reducible repeat (first | apply Kd.S_alloc | apply Kd.S_drewN | apply Kd.S_drew)); exact Kd.S_mono (Kd.S_far (p := ⟨aX, 2, none⟩) (Kd.S_types cK.out aD.out (by decide)) (fun _ hk => hk.2) (.slice dL cL.length dC)) (fun _ hk => trivial)⟩, ⟨by (with_reducible repeat (first | refine blk_drewN ?_ _ | refine blk_drew ?_ | refine blk_alloc ?_ _)); refine blk_far ?_ aI.out _; (with_reducible repeat (first | refine blk_drewN ?_ _ | refine blk_drew ?_ | refine blk_alloc ?_ _)); exact aA.out⟩, ⟨by (with_reducible repeat (first | refine blk_drewN ?_ _ | refine blk_drew ?_ | refine blk_alloc ?_ _)); refine blk_far ?_ aM.out _; (with_reducible repeat (first | refine blk_drewN ?_ _ | refine blk_drew ?_ | refine blk_alloc ?_ _)); exact aG.out⟩, ⟨by (with_reducible repeat (first | refine blk_drewN ?_ _ | refine blk_drew ?_ | refine blk_alloc ?_ _)); refine blk_put (cs := #[.int .i64 aN, .int .i64 aQ, aJ]) ?_ 2 _ rfl; (with_reducible repeat (first | refine blk_drewN ?_ _ | refine blk_drew ?_ | refine blk_alloc ?_ _)); exact aD.out⟩, ⟨b3_ HB.out aW.out aY.out bI.out⟩⟩
   ·
    rw [if_neg cQ] at H
    have dE := decide_eq_false cQ
    clear cQ
    simp only [Option.some.injEq, Prod.mk.injEq] at H
    obtain ⟨rfl, rfl, rfl⟩ := H
    have fU := bL.out
    have fP := bK.out
    have fT := aI.out
    have fO := bF.out
    obtain ⟨eL, eK, eJ, dZ, dY, dX⟩ := bx3_ aA.out
    have fS := bJ.out
    have fN := aM.out
    obtain ⟨eI, eH, eG, dW, dV, dU⟩ := bx3_ aD.out
    obtain ⟨eF, eE, eD, dT, dS, dR⟩ := bx3_ aG.out
    obtain ⟨dK, dB, fH⟩ := Kd.S_slice aC.out
    subst fH
    go_wp2
    refine bodyPost_ret (results_cell_row rfl _ _ aV 27 #[.int .i64 aN, .int .i64 aQ, .slice dK aK.length dB] (0, 0) _ rfl (by (with_reducible repeat (first | refine blk_drewN ?_ _ | refine blk_drew ?_ | refine blk_alloc ?_ _)); refine blk_put (cs := #[.int .i64 aN, .int .i64 aQ, .slice none 0 0]) ?_ 2 _ rfl; (with_reducible repeat (first | refine blk_drewN ?_ _ | refine blk_drew ?_ | refine blk_alloc ?_ _)); refine blk_put (cs := #[.int .i64 aN, .int .i64 0, .slice none 0 0]) ?_ 1 _ rfl; (with_reducible repeat (first | refine blk_drewN ?_ _ | refine blk_drew ?_ | refine blk_alloc ?_ _)); refine blk_put (cs := #[.int .i64 0, .int .i64 0, .slice none 0 0]) ?_ 0 _ rfl; (with_reducible repeat (first | refine blk_drewN ?_ _ | refine blk_drew ?_ | refine blk_alloc ?_ _)); exact aG.out) Try.underlying27 rfl (by kernel_rfl)) rfl ?_
    exact ⟨_, rf_, by (with_reducible repeat (first | apply Kd.S_alloc | apply Kd.S_drewN | apply Kd.S_drew)); exact Kd.S_mono (Kd.S_far (p := ⟨aV, 2, none⟩) (Kd.S_far (p := ⟨aV, 1, none⟩) (Kd.S_far (p := ⟨aV, 0, none⟩) (Kd.S_types aC.out aG.out (by decide)) (fun _ hk => hk.2) (.int .i64 aN)) (fun _ hk => hk.2) (.int .i64 aQ)) (fun _ hk => hk.2) (.slice dK aK.length dB)) (fun _ hk => trivial), b3_ HB.out aW.out aY.out bI.out⟩
def spec_l1Int.f (aD : List Int) (aC : Int) (aB : Int) (l1 : List Int) : Option (Int × Int × Int) := (spec_l1Below.f aD aC aB (l1.length : Int)).bind fun aA => (if 0 ≤ aA.1 then (if aA.1 < (l1.length : Int) then (some (rd l1 aA.1, aA.2.1, aA.2.2)) else (none)) else (none))
theorem spec_l1Int.calls (g : Nat) (aC : List Int) (aE : Int) (aD : Int) (A1 : Option Addr) (c1 : Nat) (l1 : List Int) (r1 : Int) (r2 : Int) (r3 : Int) (w0 w : World) (hI : IsS61 w0 w g aC aE aD) (hB : Below w0.heap.size w0 w) (aN : Kd.C (Kd.int .i64) w A1 l1.length l1) (aO : l1.length ≤ c1) (aL : ∀ ad, A1 = some ad → 0 < l1.length → ad.block ≠ g) (h : spec_l1Int.f aC aE aD l1 = some (r1, r2, r3)) :
 Calls Try.prog 44 #[.pointer (some ⟨g, 0, none⟩), .slice A1 l1.length c1] w fun e w' => e = .returned (.int .i64 r1) ∧ IsS61 w0 w' g aC r2 r3 ∧ Below w0.heap.size w0 w' ∧ KeepBut w w' g none := by
 have aR := Aside0.mk aN
 have aT := Aside0.mk aO
 clear aN aO
 have aH := Aside0.mk hI
 have HK := q_ (KeepBut.refl w g none)
 have HL := Aside0.mk hB.size
 clear hI
 have aS := Aside0.mk hB.size
 have HB := Aside0.mk hB
 clear hB
 have H := h
 clear h
 unfold spec_l1Int.f at H
 obtain ⟨⟨aB, aK, aJ⟩, A3, H⟩ := bo_ H; try dsimp only at H
 obtain ⟨aQ, H⟩ := id_ H
 obtain ⟨aP, H⟩ := id_ H
 simp only [Option.some.injEq, Prod.mk.injEq] at H
 obtain ⟨rfl, rfl, rfl⟩ := H
 go_enter Try.func44, Try.ntmps44
 go_wp2_with (first | ((with_reducible refine gate_callee (f := 36) rfl ?_); refine gl_ (some 9) Try.func36 #[.pointer (some ⟨g, 0, none⟩), .int .i64 (l1.length : Int)] rfl al_ ?_; (with_reducible refine (spec_l1Below.calls g aC aE aD (l1.length : Int) aB aK aJ w0 _ ?side1 ?side2 A3.out).mono ?_); (case side1 => repeat (first | (with_reducible first | exact aH.out | apply IsS61.alloc | apply IsS61.drewN | apply IsS61.drew | apply IsS61.set_1 | apply IsS61.set_2) | exact aH.out)); (case side2 => repeat (first | (with_reducible first | exact HB.out | apply below_alloc | apply pw_below_drewN | apply below_drew1 | refine below_set ?_ (IsS61.ge aH.out)) | exact HB.out)); rintro e w6 ⟨rfl, hi, hb, hk⟩; refine ⟨_, rfl, ?_⟩; replace HK := q_ (KeepBut.trans (by repeat (first | (with_reducible first | exact HK.out | apply KeepBut.set_ | apply keep_drewN | apply keep_drew | apply keep_alloc) | exact HK.out)) hk (.inl rfl)); replace HB := q_ (hb); replace aH := q_ (hi); (try clear hb); (try clear hk); (try clear hi); have aG : 0 ≤ (aB : Int) := od_; have aF : aB < (l1.length : Int) := od_; obtain ⟨aI, aM, aA⟩ := Kd.at_int aR.out aB aG aF; cases aM; replace aA := keep_cell HK.out aA (by first | (rw [add_block]; exact aL _ rfl (by omega)) | exact aL _ rfl (by omega) | exact aL aI rfl (by omega)); replace aG := eq_true aG; replace aF := eq_true aF))
 go_ret
 exact ⟨rf_, by repeat (first | (with_reducible first | exact aH.out | apply IsS61.alloc | apply IsS61.drewN | apply IsS61.drew | apply IsS61.set_1 | apply IsS61.set_2) | exact aH.out), bs_ HB.out (IsS61.ge aH.out), by repeat (first | (with_reducible first | exact HK.out | apply KeepBut.set_ | apply keep_drewN | apply keep_drew | apply keep_alloc) | exact HK.out)⟩
structure Bt (w0 w : World) (g : Nat) (s0 : List Int) (q y : Int) (W : World) : Prop where
 i : IsS61 w0 W g s0 q y
 b : Below w0.heap.size w0 W
 k : KeepBut w W g none
 l : w0.heap.size ≤ w.heap.size
 gl : g < w.heap.size
theorem kb_trans {w a b : World} {g : Nat} (h : KeepBut w a g none) (k : KeepBut a b g none) : KeepBut w b g none := ⟨Nat.le_trans h.1 k.1, fun i hi hne hr => (k.2 i (Nat.lt_of_lt_of_le hi h.1) hne hr).trans (h.2 i hi hne hr)⟩
section
variable {w0 w W W1 : World} {g : Nat} {s0 : List Int} {q y q' y' : Int}
theorem Bt.set (h : Bt w0 w g s0 q y W) {p : Addr} (hp : w.heap.size ≤ p.block) (u : Value) : Bt w0 w g s0 q y (W.setCell p u) :=
 ⟨IsS61.far h.i (by have := h.gl; omega) u, h.b.setCell (Nat.le_trans h.l hp) u, ⟨by have := h.k.1; simpa [World.setCell] using this, fun i hi hne hr => (Below.heap_setCell W p u i (by omega)).trans (h.k.2 i hi hne hr)⟩, h.l, h.gl⟩
theorem Bt.below (h : Bt w0 w g s0 q y W) (hb : Below W.heap.size W W1) : Bt w0 w g s0 q y W1 :=
 ⟨h.i.below hb, below_then h.b h.b.size hb, kb_trans h.k (KeepBut.of_below hb g none), h.l, h.gl⟩
theorem Bt.grown (h : Bt w0 w g s0 q y W) {row : Option Nat} (hg : W.grownBy W1 row) (hr : ∀ k, row = some k → w.heap.size ≤ k) : Bt w0 w g s0 q y W1 :=
 ⟨h.i.grown hg (fun e => by have := hr g e.symm; have := h.gl; omega), h.b.grown hg h.b.size (fun k e => Nat.le_trans h.l (hr k e)), ⟨Nat.le_trans h.k.1 hg.size, fun i hi hne _ => (hg.block i (Nat.lt_of_lt_of_le hi h.k.1) (fun e => by have := hr i e.symm; omega)).trans (h.k.2 i hi hne (by simp))⟩, h.l, h.gl⟩
theorem Bt.state (h : Bt w0 w g s0 q y W) (hi : IsS61 w0 W1 g s0 q' y') (hb : Below w0.heap.size w0 W1) (hk : KeepBut W W1 g none) : Bt w0 w g s0 q' y' W1 := ⟨hi, hb, kb_trans h.k hk, h.l, h.gl⟩
end
def Bx (W : World) (g : Nat) (a b c : Value) : Prop := W.heap[g]? = some (.cells #[a, b, c] 27 (0, 0))
section
variable {W W1 : World} {g p : Nat} {a b c : Value}
theorem Bx.cells (h : Bx W g a b c) : W.cell? ⟨g, 0, none⟩ = some a ∧ W.cell? ⟨g, 1, none⟩ = some b ∧ W.cell? ⟨g, 2, none⟩ = some c ∧ W.frozen? ⟨g, 0, none⟩ = false ∧ W.frozen? ⟨g, 1, none⟩ = false ∧ W.frozen? ⟨g, 2, none⟩ = false := bx3_ h
theorem Bx.below (h : Bx W g a b c) (hb : Below W.heap.size W W1) : Bx W1 g a b c := blk_below h hb
theorem Bx.keep (h : Bx W g a b c) (hk : KeepBut W W1 p none) (hne : g ≠ p) : Bx W1 g a b c := KeepBut.blk hk h hne (by simp)
theorem Bx.grown (h : Bx W g a b c) {row : Option Nat} (hg : W.grownBy W1 row) (hne : some g ≠ row) : Bx W1 g a b c := blk_grown h hg hne
theorem Bx.far (h : Bx W g a b c) {x : Addr} (hne : g ≠ x.block) (u : Value) : Bx (W.setCell x u) g a b c := blk_far h hne u
theorem Bx.set0 (h : Bx W g a b c) (u : Value) : Bx (W.setCell ⟨g, 0, none⟩ u) g u b c := blk_put h 0 u rfl
theorem Bx.set1 (h : Bx W g a b c) (u : Value) : Bx (W.setCell ⟨g, 1, none⟩ u) g a u c := blk_put h 1 u rfl
theorem Bx.set2 (h : Bx W g a b c) (u : Value) : Bx (W.setCell ⟨g, 2, none⟩ u) g a b u := blk_put h 2 u rfl
end
def LbEnd (w0 w : World) (g : Nat) (s0 : List Int) (r1 r2 : Int) (r3 : List S52) (r4 r5 : Int) (e : Ending) (w' : World) : Prop :=
 ∃ A c, e = .returned (.agg #[.int .i64 r1, .int .i64 r2, .slice A r3.length c]) ∧ r3.length ≤ c ∧ Kd.F k52 w' (fun q => w.heap.size ≤ q) A r3.length r3 ∧ IsS61 w0 w' g s0 r4 r5 ∧ Below w0.heap.size w0 w' ∧ KeepBut w w' g none
def spec_l5Bend.x (its : List S52) (kk : Nat) : S52 := its.getD kk z52
def spec_l5Bend.g (s0 : List Int) (n fr : Int) (its : List S52) (kk : Nat) (v q y : Int) : Option (Int × Int × List S52 × Int × Int) :=
 if v = 0 then (spec_l1Int.f s0 q y [0, wrap64 (n + 1), 61, wrap64 (n - 1), -1]).bind fun m => some (m.1, fr, its, m.2.1, m.2.2)
 else if v = 1 then (spec_l1Int.f s0 q y [wrap64 (fr + 1), 0, -1, 59]).bind fun m => some (n, m.1, its, m.2.1, m.2.2)
 else if v = 2 then some (n, fr, its.drop kk, q, y)
 else if v = 3 then some (n, fr, its.take kk, q, y)
 else if its.length = 0 then some (n, fr, its, q, y)
 else if v = 4 then some (n, fr, its.set kk ⟨⟨(spec_l5Bend.x its kk).f0.f0, ⟨#[98, 101, 110, 116]⟩⟩, (spec_l5Bend.x its kk).f1⟩, q, y)
 else if v = 5 then (if (spec_l5Bend.x its kk).f1.length < 1000 then some (n, fr, its.set kk ⟨(spec_l5Bend.x its kk).f0, (spec_l5Bend.x its kk).f1 ++ [⟨#[120]⟩]⟩, q, y) else none)
 else if v = 6 then some (n, fr, its.take kk ++ [spec_l5Bend.x its kk] ++ its.drop kk, q, y)
 else some (n, fr, its, q, y)
def spec_l5Bend.h (s0 : List Int) (n fr : Int) (its : List S52) (kk : Nat) (q y : Int) : Option (Int × Int × List S52 × Int × Int) :=
 (spec_l1Below.f s0 q y 8).bind fun v => spec_l5Bend.g s0 n fr its kk v.1 v.2.1 v.2.2
def spec_l5Bend.f (k : Nat) (s0 : List Int) (s1 s2 : Int) (a0 a1 : Int) (l : List S52) : Option (Int × Int × List S52 × Int × Int) :=
 (spec_l5Copy.f k a0 a1 l).bind fun c => if c.2.2.length < 1000 then (if c.2.2.length = 0 then spec_l5Bend.h s0 c.1 c.2.1 c.2.2 0 s1 s2 else (spec_l1Below.f s0 s1 s2 (c.2.2.length : Int)).bind fun kk => if 0 ≤ kk.1 ∧ kk.1 < (c.2.2.length : Int) then spec_l5Bend.h s0 c.1 c.2.1 c.2.2 kk.1.toNat kk.2.1 kk.2.2 else none) else none
structure Lw (w0 w : World) (g gf gr : Nat) (s0 : List Int) (n fr : Int) (its : List S52) (As : Option Addr) (cs : Nat) (q y : Int) (W : World) : Prop where
 t : Bt w0 w g s0 q y W
 f : Bx W gf (.int .i64 n) (.int .i64 fr) (.slice As its.length cs)
 r : Bx W gr (.int .i64 0) (.int .i64 0) (.slice none 0 0)
 s : Kd.S k52 52 W w.heap.size (fun q => (w.heap.size ≤ q ∧ q ≠ gf) ∧ q ≠ gr) (.slice As its.length cs) its
 a : w.heap.size ≤ gf
 b : w.heap.size ≤ gr
 ne : gf ≠ gr
structure Lz (w0 w : World) (g gf gr : Nat) (s0 : List Int) (n fr : Int) (its : List S52) (A : Option Addr) (m c : Nat) (q y : Int) (W : World) : Prop where
 t : Bt w0 w g s0 q y W
 f : Bx W gf (.int .i64 n) (.int .i64 fr) (.slice A m c)
 r : Bx W gr (.int .i64 0) (.int .i64 0) (.slice none 0 0)
 l : m ≤ c
 e : m = its.length
 s : Kd.F k52 W (fun q => (w.heap.size ≤ q ∧ q ≠ gf) ∧ q ≠ gr) A its.length its
 a : w.heap.size ≤ gf
 b : w.heap.size ≤ gr
 ne : gf ≠ gr
section
variable {w0 w W W1 : World} {g gf gr : Nat} {s0 : List Int} {n fr q y q' y' : Int} {its its' : List S52} {As A' : Option Addr} {cs c' m : Nat}
theorem Lw.keep (h : Lw w0 w g gf gr s0 n fr its As cs q y W) (hi : IsS61 w0 W1 g s0 q' y') (hb : Below w0.heap.size w0 W1) (hk : KeepBut W W1 g none) : Lw w0 w g gf gr s0 n fr its As cs q' y' W1 :=
 have := h.t.gl
 ⟨h.t.state hi hb hk, h.f.keep hk (by have := h.a; omega), h.r.keep hk (by have := h.b; omega), Kd.S_keep h.s hk (fun k ho => by have := ho.1.1; omega), h.a, h.b, h.ne⟩
theorem Lw.below (h : Lw w0 w g gf gr s0 n fr its As cs q y W) (hb : Below W.heap.size W W1) : Lw w0 w g gf gr s0 n fr its As cs q y W1 :=
 ⟨h.t.below hb, h.f.below hb, h.r.below hb, Kd.S_below h.s hb, h.a, h.b, h.ne⟩
theorem Lw.z (h : Lw w0 w g gf gr s0 n fr its As cs q y W) : Lz w0 w g gf gr s0 n fr its As its.length cs q y W :=
 ⟨h.t, h.f, h.r, (Kd.S_reads' h.s).2.1, rfl, Kd.S_F h.s, h.a, h.b, h.ne⟩
theorem Lz.sn (h : Lz w0 w g gf gr s0 n fr its As m cs q y W) (u : Int) : Lz w0 w g gf gr s0 u fr its As m cs q y (W.setCell ⟨gf, 0, none⟩ (.int .i64 u)) :=
 ⟨h.t.set h.a _, h.f.set0 _, h.r.far (Ne.symm h.ne) _, h.l, h.e, Kd.F_far h.s (fun k hk => hk.1.2) _, h.a, h.b, h.ne⟩
theorem Lz.sf (h : Lz w0 w g gf gr s0 n fr its As m cs q y W) (u : Int) : Lz w0 w g gf gr s0 n u its As m cs q y (W.setCell ⟨gf, 1, none⟩ (.int .i64 u)) :=
 ⟨h.t.set h.a _, h.f.set1 _, h.r.far (Ne.symm h.ne) _, h.l, h.e, Kd.F_far h.s (fun k hk => hk.1.2) _, h.a, h.b, h.ne⟩
theorem Lz.items (h : Lz w0 w g gf gr s0 n fr its As m cs q y W) (hl : its'.length ≤ c') (hs : Kd.F k52 W (fun q => (w.heap.size ≤ q ∧ q ≠ gf) ∧ q ≠ gr) A' its'.length its') : Lz w0 w g gf gr s0 n fr its' A' its'.length c' q y (W.setCell ⟨gf, 2, none⟩ (.slice A' its'.length c')) :=
 ⟨h.t.set h.a _, h.f.set2 _, h.r.far (Ne.symm h.ne) _, hl, rfl, Kd.F_far hs (fun k hk => hk.1.2) _, h.a, h.b, h.ne⟩
end
theorem Lz.box {w0 w W : World} {g gf gr : Nat} {s0 : List Int} {n fr q y : Int} {its : List S52} {A : Option Addr} {m c : Nat} (h : Lz w0 w g gf gr s0 n fr its A m c q y W) : Bx (((W.setCell ⟨gr, 0, none⟩ (.int .i64 n)).setCell ⟨gr, 1, none⟩ (.int .i64 fr)).setCell ⟨gr, 2, none⟩ (.slice A m c)) gr (.int .i64 n) (.int .i64 fr) (.slice A m c) := ((h.r.set0 _).set1 _).set2 _
theorem Lz.out {w0 w W : World} {g gf gr : Nat} {s0 : List Int} {n fr q y : Int} {its : List S52} {A : Option Addr} {m c : Nat} (h : Lz w0 w g gf gr s0 n fr its A m c q y W) : LbEnd w0 w g s0 n fr its q y (.returned (.agg #[.int .i64 n, .int .i64 fr, .slice A m c])) (((W.setCell ⟨gr, 0, none⟩ (.int .i64 n)).setCell ⟨gr, 1, none⟩ (.int .i64 fr)).setCell ⟨gr, 2, none⟩ (.slice A m c)) :=
 have he := h.e
 have ht := ((h.t.set (p := ⟨gr, 0, none⟩) h.b (.int .i64 n)).set (p := ⟨gr, 1, none⟩) h.b (.int .i64 fr)).set (p := ⟨gr, 2, none⟩) h.b (.slice A m c)
 ⟨A, c, by rw [he], by rw [← he]; exact h.l, Kd.F_mono (Kd.F_far (p := ⟨gr, 2, none⟩) (Kd.F_far (p := ⟨gr, 1, none⟩) (Kd.F_far (p := ⟨gr, 0, none⟩) h.s (fun _ hk => hk.2) _) (fun _ hk => hk.2) _) (fun _ hk => hk.2) _) (fun _ hk => hk.1.1), ht.i, ht.b, ht.k⟩
theorem lb_apart {W : World} {b gf gr cs n : Nat} {As : Option Addr} {its : List S52} {a b1 c a2 b2 c2 : Value} (h : Kd.S k52 52 W b (fun q => b ≤ q) (.slice As n cs) its) (hf : Bx W gf a b1 c) (hr : Bx W gr a2 b2 c2) :
 Kd.S k52 52 W b (fun q => (b ≤ q ∧ q ≠ gf) ∧ q ≠ gr) (.slice As n cs) its := Kd.S_types (Kd.S_types h hf (by decide)) hr (by decide)
theorem lb_val {W : World} {base : Nat} {ok : Nat → Prop} {g n cap : Nat} {l : List S52} (h : Kd.S k52 52 W base ok (.slice (some ⟨g, 0, none⟩) n cap) l) (i : Nat) (hi : i < n) (t : ByteArray) {y : S52} (hy : l.getD i z52 = y) :
 (∃ u, W.cell? ⟨g, i * 3 + 1, none⟩ = some u) ∧ W.frozen? ⟨g, i * 3 + 1, none⟩ = false ∧ Kd.S k52 52 (W.setCell ⟨g, i * 3 + 1, none⟩ (.string t)) base ok (.slice (some ⟨g, 0, none⟩) n cap) (l.set i ⟨⟨y.f0.f0, t⟩, y.f1⟩) := by
 obtain ⟨oki, c, hcl, hM, hcc, hfr, hoki, hH⟩ := Kd.S_elem h z52 (i : Int) (by omega) (by omega)
 obtain ⟨v2, rfl, g2⟩ := k52_openM hM
 have g3 : Kd.string.R 9 W base oki v2 y.f1 := hy ▸ g2
 have e1 : (l.getD (i : Int).toNat z52) = y := hy
 rw [e1] at hH
 have hs := Kd.S_seg0 hH (by omega) (by omega) (seg := [.string t]) (j := 1) (show 1 + 1 ≤ 3 by decide) (x' := ⟨⟨y.f0.f0, t⟩, y.f1⟩) (okp := oki) (k52_mkM W base oki ⟨⟨y.f0.f0, t⟩, y.f1⟩ g3) (fun _ hk => hk)
 exact ⟨⟨_, hcc 1 _ rfl⟩, hfr 1, hs.1⟩
theorem Lw.put {w0 w W : World} {g gf gr gs j : Nat} {s0 : List Int} {n fr q y : Int} {its its' : List S52} {cs : Nat} {u : Value} (h : Lw w0 w g gf gr s0 n fr its (some ⟨gs, 0, none⟩) cs q y W) (hl : its.length = its'.length) (hs : Kd.S k52 52 (W.setCell ⟨gs, j, none⟩ u) w.heap.size (fun q => (w.heap.size ≤ q ∧ q ≠ gf) ∧ q ≠ gr) (.slice (some ⟨gs, 0, none⟩) its.length cs) its') :
 Lz w0 w g gf gr s0 n fr its' (some ⟨gs, 0, none⟩) its.length cs q y (W.setCell ⟨gs, j, none⟩ u) :=
 have ho := (Kd.S_R h.s).1 gs rfl
 ⟨h.t.set ho.1.1 _, h.f.far (Ne.symm ho.1.2) _, h.r.far (Ne.symm ho.2) _, (Kd.S_reads' hs).2.1, hl, by have h_ := Kd.S_F hs; rw [hl] at h_; exact h_, h.a, h.b, h.ne⟩
theorem Lw.ok {w0 w W : World} {g gf gr gs : Nat} {s0 : List Int} {n fr q y : Int} {its : List S52} {cs : Nat} (h : Lw w0 w g gf gr s0 n fr its (some ⟨gs, 0, none⟩) cs q y W) : gs ≠ gf ∧ gf ≠ gs ∧ gs ≠ gr ∧ gr ≠ gs :=
 have ho := (Kd.S_R h.s).1 gs rfl
 ⟨ho.1.2, Ne.symm ho.1.2, ho.2, Ne.symm ho.2⟩
theorem lb_head {W : World} {b cs n : Nat} {ok : Nat → Prop} {As : Option Addr} {its : List S52} (h : Kd.S k52 52 W b ok (.slice As n cs) its) (hp : 0 < its.length) : ∃ gs, As = some ⟨gs, 0, none⟩ := by
 obtain ⟨g, cap, hv, _⟩ := Kd.S_form h hp
 injection hv with hA
 exact ⟨g, hA⟩
theorem Lw.drew {w0 w W : World} {g gf gr : Nat} {s0 : List Int} {n fr q y : Int} {its : List S52} {As : Option Addr} {cs : Nat} (h : Lw w0 w g gf gr s0 n fr its As cs q y W) : Lw w0 w g gf gr s0 n fr its As cs q y W.drew := h.below (below_drew (Below.refl _ _))
theorem Lw.path {w0 w W : World} {g gf gr gs kk : Nat} {s0 : List Int} {n fr q y : Int} {its : List S52} {cs : Nat} (h : Lw w0 w g gf gr s0 n fr its (some ⟨gs, 0, none⟩) cs q y W) (hk : kk < its.length) :
 ∃ okj v2, W.cell? ⟨gs, kk * 3 + 2, none⟩ = some v2 ∧ Kd.string.R 9 W w.heap.size okj v2 (spec_l5Bend.x its kk).f1 ∧ (∀ k, W.heap.size ≤ k → okj k) ∧ ∀ (W1 : World) (v1 : Value) (r : List ByteArray), W.grownBy W1 v2.ownBlock → Kd.string.R 9 W1 w.heap.size okj v1 r →
  W1.cell? ⟨gs, kk * 3 + 2, none⟩ = some v2 ∧ W1.frozen? ⟨gs, kk * 3 + 2, none⟩ = false ∧ Bx W1 gf (.int .i64 n) (.int .i64 fr) (.slice (some ⟨gs, 0, none⟩) its.length cs) ∧ Lz w0 w g gf gr s0 n fr (its.set kk ⟨(spec_l5Bend.x its kk).f0, r⟩) (some ⟨gs, 0, none⟩) its.length cs q y (W1.setCell ⟨gs, kk * 3 + 2, none⟩ v1) := by
 obtain ⟨oki, c, hcl, hM, hcc, hfr, hoki, hH⟩ := Kd.S_elem h.s z52 (kk : Int) (by omega) (by omega)
 obtain ⟨v2, rfl, g2⟩ := k52_openM hM
 have hzf := blk_lt h.f
 have hzr := blk_lt h.r
 have hzz := h.t.k.1
 refine ⟨fun k => oki k ∨ ((w.heap.size ≤ k ∧ k ≠ gf) ∧ k ≠ gr) ∧ W.heap.size ≤ k, v2, hcc 2 _ rfl, Kd.R_mono g2 (fun _ hk => .inl hk), fun k hk => .inr ⟨⟨⟨Nat.le_trans hzz hk, by omega⟩, by omega⟩, hk⟩, fun W1 v1 r hg hr => ?_⟩
 have hrow : ∀ k, v2.ownBlock = some k → oki k := fun k hk => g2.1 k hk
 have aA := Kd.H_grown (Kd.H_widen hH) hg (fun k hk => .inl (hrow k hk))
 have hat := Kd.H_at aA (by omega) (by omega)
 have hs := Kd.S_seg0 aA (by omega) (by omega) (seg := [v1]) (j := 2) (show 2 + 1 ≤ 3 by decide) (x' := ⟨(spec_l5Bend.x its kk).f0, r⟩) (okp := fun k => oki k ∨ ((w.heap.size ≤ k ∧ k ≠ gf) ∧ k ≠ gr) ∧ W.heap.size ≤ k) (k52_mkM W1 w.heap.size _ ⟨(spec_l5Bend.x its kk).f0, r⟩ hr) (fun _ hk => hk)
 have ho := (Kd.S_R h.s).1 gs rfl
 have ht := (h.t.grown hg (fun k hk => (hoki k (hrow k hk)).1.1.1)).set (p := ⟨gs, kk * 3 + 2, none⟩) ho.1.1 v1
 have hf := h.f.grown hg (fun e => (hoki gf (hrow gf e.symm)).1.1.2 rfl)
 have hb := h.r.grown hg (fun e => (hoki gr (hrow gr e.symm)).1.2 rfl)
 have hl : its.length = (its.set kk ⟨(spec_l5Bend.x its kk).f0, r⟩).length := (List.length_set).symm
 refine ⟨hat.1 2 _ rfl, hat.2 2, hf, ht, hf.far (Ne.symm ho.1.2) _, hb.far (Ne.symm ho.2) _, (Kd.S_reads' hs.1).2.1, hl, ?_, h.a, h.b, h.ne⟩
 have h_ := Kd.S_F hs.1
 rw [hl] at h_
 exact h_
def spec_l5Bend.T19 : Bool × List (List Nat × List Nat) := (true, [([], []), ([0], [0]), ([], []), ([], []), ([3], [3]), ([], []), ([4, 5], [4, 5]), ([6], [6]), ([7], [7]), ([], []), ([8, 9], [8, 9]), ([1, 2, 0, 1, 2, 3, 4, 5, 6, 7, 8, 9, 10], [1, 2]), ([11, 0, 1, 2, 3, 4, 5, 6, 7, 8, 9, 10], [11]), ([12, 10, 10, 0, 1, 2, 3, 4, 5, 6, 7, 8, 9, 10], [10, 12])])
def spec_l5Bend.B19 : List Nat := [0, 1, 0, 0, 8, 0, 56, 120, 248, 0, 1016, 2047, 4095, 8191]
theorem spec_l5Bend.tab19 : rtab .any (opsOf Try.f19 19) = spec_l5Bend.T19 := by kernel_rfl
theorem spec_l5Bend.bits19 : waitsOk spec_l5Bend.T19.2 spec_l5Bend.B19 = true := by kernel_rfl
def spec_l5Bend.T22 : Bool × List (List Nat × List Nat) := (true, [([], []), ([], []), ([1], [1]), ([], []), ([2, 3], [2, 3]), ([0, 4], [0, 4]), ([], []), ([6], [6]), ([], []), ([7, 8], [7, 8]), ([9], [9]), ([10], [10]), ([5, 11, 5], [5, 11]), ([], []), ([13], [13]), ([], []), ([14, 15], [14, 15]), ([12, 16, 12], [12, 16]), ([0, 1, 2, 3, 4, 5, 6, 7, 8, 9, 10, 11, 12, 13, 14, 15, 16, 17], []), ([18, 17, 17, 0, 1, 2, 3, 4, 5, 6, 7, 8, 9, 10, 11, 12, 13, 14, 15, 16, 17], [17, 18])])
def spec_l5Bend.B22 : List Nat := [0, 0, 2, 0, 14, 31, 0, 64, 0, 448, 960, 1984, 4095, 0, 8192, 0, 57344, 131071, 262143, 524287]
theorem spec_l5Bend.tab22 : rtab .any (opsOf Try.f19 22) = spec_l5Bend.T22 := by kernel_rfl
theorem spec_l5Bend.bits22 : waitsOk spec_l5Bend.T22.2 spec_l5Bend.B22 = true := by kernel_rfl
def okX (w wd : World) (gf gr : Nat) (k : Nat) : Prop := ((w.heap.size ≤ k ∧ k ≠ gf) ∧ k ≠ gr) ∧ k < wd.heap.size
def okN (w wd : World) (gf gr : Nat) (k : Nat) : Prop := okX w wd gf gr k ∨ wd.heap.size ≤ k
def LbLit (w wd W : World) (gf gr : Nat) (u v : Value) (x : S52) : Prop := ∃ A c b, v = .slice A 1 c ∧ Kd.F k52 W (fun k => okX w wd gf gr k ∨ k = b) A 1 [x] ∧ wd.heap.size ≤ b ∧ b < W.heap.size ∧ some b ≠ u.ownBlock
theorem lb_reps {R : S52 → List Value → Prop} {x : S52} {c : List Value} (hc : c.length = 3) (h : R x c) : Reps R 3 [x] c := by
 refine ⟨by simp [hc], fun j p hj => ?_⟩
 cases j with
 | zero =>
  obtain rfl : x = p := by simpa using hj
  rw [Nat.zero_mul, List.drop_zero, List.take_of_length_le (Nat.le_of_eq hc)]
  exact h
 | succ j => simp at hj
theorem lb_gb {a b : World} (h : a.grownBy b none) : Below a.heap.size a b := ⟨h.os, h.tape, h.output, h.size, fun k hk => h.block k hk (by simp)⟩
section
variable {w wd W W1 : World} {gf gr : Nat} {u u1 v : Value} {x : S52} {xs : List S52}
theorem lb_lit {b : Nat} (h : Kd.N k52 52 W1 wd.heap.size (fun k => okX w wd gf gr k ∨ k = b) v [x]) (hb : wd.heap.size ≤ b) (hl : b < W1.heap.size) (hu : some b ≠ u.ownBlock) : LbLit w wd W1 gf gr u v x := by
 obtain ⟨A, c, rfl⟩ := Kd.N_slice h
 exact ⟨A, c, b, rfl, Kd.N_F h, hb, hl, hu⟩
theorem LbLit.below (h : LbLit w wd W gf gr u v x) (hb : Below W.heap.size W W1) (hu : ∀ k, u1.ownBlock = some k → W.heap.size ≤ k) : LbLit w wd W1 gf gr u1 v x := by
 obtain ⟨A, c, b, e, hF, h1, h2, h3⟩ := h
 exact ⟨A, c, b, e, Kd.F_below hF hb, h1, Nat.lt_of_lt_of_le h2 hb.size, fun e => by have := hu b e.symm; omega⟩
theorem LbLit.after (h : LbLit w wd W gf gr u v x) (hu : ∀ k, u.ownBlock = some k → wd.heap.size ≤ k) (hg : W.grownBy W1 u.ownBlock) (hat : u1.ownBlock = u.ownBlock ∨ ∃ b, u1.ownBlock = some b ∧ W.heap.size ≤ b) : LbLit w wd W1 gf gr u1 v x := by
 obtain ⟨A, c, b, e, hF, h1, h2, h3⟩ := h
 refine ⟨A, c, b, e, Kd.F_grown hF hg (fun k hk he => ?_), h1, Nat.lt_of_lt_of_le h2 hg.size, fun e => ?_⟩
 · rcases hk with hk | rfl
   · have := hu k he.symm; have := hk.2; omega
   · exact h3 he
 · rcases hat with hat | ⟨q, hq, hl⟩
   · rw [hat] at e; exact h3 e
   · rw [hq] at e; injection e with e; omega
theorem LbLit.ok {A : Option Addr} {m c b : Nat} (hu : ∀ k, u.ownBlock = some k → wd.heap.size ≤ k) (h1 : wd.heap.size ≤ b) (h3 : some b ≠ u.ownBlock) : ∀ k, (okX w wd gf gr k ∨ k = b) → okN w wd gf gr k ∧ some k ≠ u.ownBlock := by
 intro k hk
 rcases hk with hk | rfl
 · exact ⟨.inl hk, fun he => by have := hu k he.symm; have := hk.2; omega⟩
 · exact ⟨.inr h1, h3⟩
theorem okX_ok (hu : ∀ k, u.ownBlock = some k → wd.heap.size ≤ k) : ∀ k, okX w wd gf gr k → okN w wd gf gr k ∧ some k ≠ u.ownBlock := fun k hk => ⟨.inl hk, fun he => by have := hu k he.symm; have := hk.2; omega⟩
end
theorem spec_l5Bend.calls (k : Nat) (g : Nat) (s0 : List Int) (s1 s2 : Int) (a0 a1 : Int) (A0 : Option Addr) (c0 : Nat) (l : List S52) (r1 r2 : Int) (r3 : List S52) (r4 r5 : Int) (w0 w : World) (hI : IsS61 w0 w g s0 s1 s2) (hB : Below w0.heap.size w0 w) (hr : Kd.C k52 w A0 l.length l) (hc : l.length ≤ c0) (h : spec_l5Bend.f k s0 s1 s2 a0 a1 l = some (r1, r2, r3, r4, r5)) :
 Calls Try.prog 19 #[.pointer (some ⟨g, 0, none⟩), .agg #[.int .i64 a0, .int .i64 a1, .slice A0 l.length c0]] w (LbEnd w0 w g s0 r1 r2 r3 r4 r5) := by
 have cI := Try.underlying27
 have cH := Try.underlying45
 have cG := Try.underlying52
 have bY := Aside0.mk hr
 have bZ := Aside0.mk hc
 have bX : Aside0 (Bt w0 w g s0 s1 s2 w) := ⟨⟨hI, hB, KeepBut.refl _ _ _, hB.size, hI.lt⟩⟩
 clear hr hc hI hB
 unfold spec_l5Bend.f at h
 obtain ⟨⟨n, fr, its⟩, A1, H⟩ := bo_ h
 clear h
 try dsimp only at H
 obtain ⟨hlen, H⟩ := ip_ H
 have aW := Aside0.mk hlen
 have HC := Aside0.mk H
 clear H hlen
 go_enter Try.func19, Try.ntmps19
 go_upto_if 11 with (first
  | ((with_reducible refine gate_dst (N := 3) rfl ?_); refine box_event rfl (N := 3) rfl (cs := #[.int .i64 a0, .int .i64 a1, .slice A0 l.length c0]) (t := 27) hr_ ?_; intro gf hgf w1 bN aG; have HF : Aside0 (Bx w1 gf _ _ _) := ⟨bN⟩; have GF : Aside0 (w.heap.size ≤ gf) := ⟨by rw [hgf]; exact Nat.le_refl _⟩; have HW := q_ aG; have aH := q_ (bX.out.below aG); clear bN hgf aG)
  | ((with_reducible refine gate_dst (N := 4) rfl ?_); refine box_event rfl (N := 4) rfl (cs := #[.int .i64 0, .int .i64 0, .slice none 0 0]) (t := 27) hr_ ?_; intro gr hgr w2 bM aF; have HR : Aside0 (Bx w2 gr _ _ _) := ⟨bM⟩; have GR : Aside0 (w.heap.size ≤ gr) := ⟨by rw [hgr]; exact HW.out.size⟩; have NE : Aside0 (gf ≠ gr) := ⟨by rw [hgr]; exact Nat.ne_of_lt (blk_lt HF.out)⟩; replace HF := q_ (HF.out.below aF); replace HW := q_ (below_step HW.out aF); replace aH := q_ (aH.out.below aF); clear bM hgr aF; obtain ⟨aQ, aP, aO, aT, aS, aR⟩ := HF.out.cells)
  | ((with_reducible refine gate_callee (f := 43) rfl ?_); refine gl_ (some 7) Try.func43 #[.agg #[.int .i64 a0, .int .i64 a1, .slice A0 l.length c0]] rfl al_ ?_; (with_reducible refine (spec_l5Copy.calls k a0 a1 _ _ l n fr its _ ?side1 ?side2 A1.out).mono ?_); (case side1 => exact kc_ (Kd.C_below bY.out HW.out)); (case side2 => exact bZ.out); rintro e w3 ⟨v, rfl, ho, hb⟩; refine ⟨_, rfl, ?_⟩; have HS := q_ (Kd.S_mono (Kd.S_bound (Kd.S_lower ho (below_size HW.out))) (fun _ hk => hk.2.1)); replace HF := q_ (HF.out.below hb); replace HR := q_ (HR.out.below hb); replace aH := q_ (aH.out.below hb); clear hb ho aQ aP aO aT aS aR; obtain ⟨As, cs, ev⟩ := Kd.S_slice HS.out; subst ev; obtain ⟨aQ, aP, aO, aT, aS, aR⟩ := HF.out.cells))
 have HX : Aside0 (Lw w0 w g gf gr s0 n fr its As cs s1 s2 (((w3.setCell ⟨gf, 0, none⟩ (.int .i64 n)).setCell ⟨gf, 1, none⟩ (.int .i64 fr)).setCell ⟨gf, 2, none⟩ (.slice As its.length cs))) := ⟨((aH.out.set GF.out _).set GF.out _).set GF.out _, ((HF.out.set0 _).set1 _).set2 _, ((HR.out.far (Ne.symm NE.out) _).far (Ne.symm NE.out) _).far (Ne.symm NE.out) _, Kd.S_far (p := ⟨gf, 2, none⟩) (Kd.S_far (p := ⟨gf, 1, none⟩) (Kd.S_far (p := ⟨gf, 0, none⟩) (lb_apart HS.out HF.out HR.out) (fun _ hk => hk.1.2) _) (fun _ hk => hk.1.2) _) (fun _ hk => hk.1.2) _, GF.out, GR.out, NE.out⟩
 clear aQ aP aO aT aS aR HF HR aH HS HW
 generalize (((w3.setCell ⟨gf, 0, none⟩ (.int .i64 n)).setCell ⟨gf, 1, none⟩ (.int .i64 fr)).setCell ⟨gf, 2, none⟩ (.slice As its.length cs)) = w4 at HX ⊢
 go_cut [5] (fun v5 wc => ∃ (kk : Nat) (q y : Int), v5 = .int .i64 (kk : Int) ∧ Aside0 (spec_l5Bend.h s0 n fr its kk q y = some (r1, r2, r3, r4, r5)) ∧ Aside0 (kk ≤ its.length ∧ (0 < its.length → kk < its.length)) ∧ Aside0 (Lw w0 w g gf gr s0 n fr its As cs q y wc))
 case first =>
  have H := HC.out
  clear HC
  obtain ⟨aQ, aP, aO, aT, aS, aR⟩ := HX.out.f.cells
  by_cases c5 : its.length = 0
  ·
   rw [if_pos c5] at H
   have H' := Aside0.mk H
   clear H
   have cb : decide (0 < its.length) = false := decide_eq_false (by omega)
   have c6 := Aside0.mk c5
   clear c5
   first | rw [cb] | skip
   go_wp2
   go_meet
   case rel => exact ⟨0, s1, s2, rs_, H', ⟨Nat.zero_le _, fun hp => by have := c6.out; omega⟩, HX⟩
  rw [if_neg c5] at H
  obtain ⟨⟨kv, q, y⟩, A2, H⟩ := bo_ H
  try dsimp only at H
  obtain ⟨c7, H⟩ := ip_ H
  have H' := Aside0.mk H
  clear H
  have c8 := Aside0.mk c7
  clear c7
  have cb : decide (0 < its.length) = true := decide_eq_true (by omega)
  clear c5
  first | rw [cb] | skip
  go_wp2_with (first
   | ((with_reducible refine gate_callee (f := 36) rfl ?_); refine gl_ (some 16) Try.func36 #[.pointer (some ⟨g, 0, none⟩), .int .i64 (its.length : Int)] rfl al_ ?_; (with_reducible refine (spec_l1Below.calls g s0 s1 s2 (its.length : Int) kv q y w0 _ ?side1 ?side2 A2.out).mono ?_); (case side1 => exact HX.out.t.i); (case side2 => exact HX.out.t.b); rintro e w5 ⟨rfl, hi, hb, hk⟩; refine ⟨_, rfl, ?_⟩; replace HX := q_ (HX.out.keep hi hb hk); clear hi hb hk))
  go_meet
  case rel => exact ⟨kv.toNat, q, y, by have := c8.out; go_simp; omega, H', ⟨by have := c8.out; omega, fun _ => by have := c8.out; omega⟩, HX⟩
 case rest =>
  clear HC HX
  obtain ⟨kk, q, y, rfl, H0, HK, HX⟩ := hcut
  have H := H0.out
  clear H0
  unfold spec_l5Bend.h at H
  obtain ⟨⟨v, q2, y2⟩, A3, H⟩ := bo_ H
  try dsimp only at H
  unfold spec_l5Bend.g at H
  have HC := Aside0.mk H
  clear H
  go_upto_region 6 with (first
   | ((with_reducible refine gate_callee (f := 36) rfl ?_); refine gl_ (some 18) Try.func36 #[.pointer (some ⟨g, 0, none⟩), .int .i64 8] rfl al_ ?_; (with_reducible refine (spec_l1Below.calls g s0 q y 8 v q2 y2 w0 _ ?side1 ?side2 A3.out).mono ?_); (case side1 => exact HX.out.t.i); (case side2 => exact HX.out.t.b); rintro e w5 ⟨rfl, hi, hb, hk⟩; refine ⟨_, rfl, ?_⟩; replace HX := q_ (HX.out.keep hi hb hk); clear hi hb hk))
  have H := HC.out
  clear HC
  obtain ⟨aQ, aP, aO, aT, aS, aR⟩ := HX.out.f.cells
  obtain ⟨cC, cB, cA, cF, cE, cD⟩ := HX.out.r.cells
  have cK := HX.out.ne
  have cJ := Ne.symm HX.out.ne
  by_cases c0 : v = 0
  ·
   skip
   subst c0
   rw [if_pos rfl] at H
   obtain ⟨yl, hyl⟩ : ∃ y_ : List Int, y_ = ([0, wrap64 (n + 1), 61, wrap64 (n - 1), -1] : List Int) := ⟨_, rfl⟩
   rw [← hyl] at H
   obtain ⟨⟨m, q3, y3⟩, A4, H⟩ := bo_ H
   try dsimp only at H
   simp only [Option.some.injEq, Prod.mk.injEq] at H
   obtain ⟨rfl, rfl, rfl, rfl, rfl⟩ := H
   have Nyl := Aside0.mk hyl
   clear hyl
   go_wp2_with (first
    | ((with_reducible refine gate_dst (N := 28) rfl ?_); refine Kd.R_lit (Kd.int .i64) _ 3 ?hg (N := 28) ?hd (xs := ([0, wrap64 (n + 1), 61, wrap64 (n - 1), -1] : List Int)) (inner := [.int .i64 0, .int .i64 (wrap64 (n + 1)), .int .i64 61, .int .i64 (wrap64 (n - 1)), .int .i64 (-1)]) (ok := fun _ => True) (okp := fun _ => True) ?hr ?hp (fun _ hk => hk) trivial (Below.refl _ _) (Nat.le_refl _) (by simp) ?_; (case hd => rfl); (case hg => rfl); (case hr => first | (go_simp; done) | (go_simp; rfl)); (case hp => exact (Reps.one (show Kd.M (Kd.int .i64) _ _ _ 0 [.int .i64 0] from rfl) (Reps.one (show Kd.M (Kd.int .i64) _ _ _ (wrap64 (n + 1)) [.int .i64 (wrap64 (n + 1))] from rfl) (Reps.one (show Kd.M (Kd.int .i64) _ _ _ 61 [.int .i64 61] from rfl) (Reps.one (show Kd.M (Kd.int .i64) _ _ _ (wrap64 (n - 1)) [.int .i64 (wrap64 (n - 1))] from rfl) (Reps.one (show Kd.M (Kd.int .i64) _ _ _ (-1) [.int .i64 (-1)] from rfl) (Reps.none _ _))))))); intro vl wl hol hb hg_ hnew_; clear hg_ hnew_; (first | rw [← Nyl.out] at hol | (simp only [Int.reduceToNat] at hol; rw [← Nyl.out] at hol)); have GL := Aside0.mk HX.out.t.i.lt; replace HX := q_ (HX.out.below hb); have HL := q_ hol; clear hb hol; obtain ⟨Al, cl, el⟩ := Kd.R_slice HL.out; subst el)
    | ((with_reducible refine gate_callee (f := 44) rfl ?_); refine gl_ (some 29) Try.func44 #[.pointer (some ⟨g, 0, none⟩), .slice Al yl.length cl] rfl al_ ?_; (with_reducible refine (spec_l1Int.calls g s0 q2 y2 Al cl yl m q3 y3 w0 _ ?side1 ?side2 ?side3 ?side4 ?side5 A4.out).mono ?_); (case side1 => exact HX.out.t.i); (case side2 => exact HX.out.t.b); (case side3 => exact (Kd.R_reads' HL.out).2.2); (case side4 => exact (Kd.R_reads' HL.out).2.1); (case side5 => intro ad he hp hg; subst he; have := Kd.R_base HL.out ad.block (by simp [Value.ownBlock]); have := GL.out; omega); rintro e w6 ⟨rfl, hi, hb, hk⟩; refine ⟨_, rfl, ?_⟩; replace HX := q_ (HX.out.keep hi hb hk); clear hi hb hk; obtain ⟨aK, aJ, aI, aN, aM, aL⟩ := HX.out.f.cells; obtain ⟨bD, bC, bB, bG, bF, bE⟩ := HX.out.r.cells))
   refine bodyPost_ret (results_cell_row rfl _ _ gr 27 #[.int .i64 m, .int .i64 fr, .slice As its.length cs] (0, 0) _ rfl (Lz.box (HX.out.z.sn m)) Try.underlying27 rfl (by kernel_rfl)) rfl ?_
   exact Lz.out (HX.out.z.sn m)
  rw [if_neg c0] at H
  have d0 := beq_eq_false_iff_ne.mpr c0
  clear c0
  by_cases c1 : v = 1
  ·
   skip
   subst c1
   rw [if_pos rfl] at H
   obtain ⟨yl, hyl⟩ : ∃ y_ : List Int, y_ = ([wrap64 (fr + 1), 0, -1, 59] : List Int) := ⟨_, rfl⟩
   rw [← hyl] at H
   obtain ⟨⟨m, q3, y3⟩, A4, H⟩ := bo_ H
   try dsimp only at H
   simp only [Option.some.injEq, Prod.mk.injEq] at H
   obtain ⟨rfl, rfl, rfl, rfl, rfl⟩ := H
   have Nyl := Aside0.mk hyl
   clear hyl
   go_wp2_with (first
    | ((with_reducible refine gate_dst (N := 37) rfl ?_); refine Kd.R_lit (Kd.int .i64) _ 3 ?hg (N := 37) ?hd (xs := ([wrap64 (fr + 1), 0, -1, 59] : List Int)) (inner := [.int .i64 (wrap64 (fr + 1)), .int .i64 0, .int .i64 (-1), .int .i64 59]) (ok := fun _ => True) (okp := fun _ => True) ?hr ?hp (fun _ hk => hk) trivial (Below.refl _ _) (Nat.le_refl _) (by simp) ?_; (case hd => rfl); (case hg => rfl); (case hr => first | (go_simp; done) | (go_simp; rfl)); (case hp => exact (Reps.one (show Kd.M (Kd.int .i64) _ _ _ (wrap64 (fr + 1)) [.int .i64 (wrap64 (fr + 1))] from rfl) (Reps.one (show Kd.M (Kd.int .i64) _ _ _ 0 [.int .i64 0] from rfl) (Reps.one (show Kd.M (Kd.int .i64) _ _ _ (-1) [.int .i64 (-1)] from rfl) (Reps.one (show Kd.M (Kd.int .i64) _ _ _ 59 [.int .i64 59] from rfl) (Reps.none _ _)))))); intro vl wl hol hb hg_ hnew_; clear hg_ hnew_; (first | rw [← Nyl.out] at hol | (simp only [Int.reduceToNat] at hol; rw [← Nyl.out] at hol)); have GL := Aside0.mk HX.out.t.i.lt; replace HX := q_ (HX.out.below hb); have HL := q_ hol; clear hb hol; obtain ⟨Al, cl, el⟩ := Kd.R_slice HL.out; subst el)
    | ((with_reducible refine gate_callee (f := 44) rfl ?_); refine gl_ (some 38) Try.func44 #[.pointer (some ⟨g, 0, none⟩), .slice Al yl.length cl] rfl al_ ?_; (with_reducible refine (spec_l1Int.calls g s0 q2 y2 Al cl yl m q3 y3 w0 _ ?side1 ?side2 ?side3 ?side4 ?side5 A4.out).mono ?_); (case side1 => exact HX.out.t.i); (case side2 => exact HX.out.t.b); (case side3 => exact (Kd.R_reads' HL.out).2.2); (case side4 => exact (Kd.R_reads' HL.out).2.1); (case side5 => intro ad he hp hg; subst he; have := Kd.R_base HL.out ad.block (by simp [Value.ownBlock]); have := GL.out; omega); rintro e w6 ⟨rfl, hi, hb, hk⟩; refine ⟨_, rfl, ?_⟩; replace HX := q_ (HX.out.keep hi hb hk); clear hi hb hk; obtain ⟨aK, aJ, aI, aN, aM, aL⟩ := HX.out.f.cells; obtain ⟨bD, bC, bB, bG, bF, bE⟩ := HX.out.r.cells))
   refine bodyPost_ret (results_cell_row rfl _ _ gr 27 #[.int .i64 n, .int .i64 m, .slice As its.length cs] (0, 0) _ rfl (Lz.box (HX.out.z.sf m)) Try.underlying27 rfl (by kernel_rfl)) rfl ?_
   exact Lz.out (HX.out.z.sf m)
  rw [if_neg c1] at H
  have d1 := beq_eq_false_iff_ne.mpr c1
  clear c1
  by_cases c2 : v = 2
  ·
   skip
   subst c2
   rw [if_pos rfl] at H
   obtain ⟨yd, hyd⟩ : ∃ y_ : List S52, y_ = its.drop kk := ⟨_, rfl⟩
   rw [← hyd] at H
   simp only [Option.some.injEq, Prod.mk.injEq] at H
   obtain ⟨rfl, rfl, rfl, rfl, rfl⟩ := H
   have hlen : yd.length = its.length - kk := by rw [hyd, List.length_drop]
   have hk := HK.out.1
   obtain ⟨i0, aE, _, aB, _⟩ := info_parts info52
   obtain ⟨A2, aD⟩ : ∃ A1, A1 = (if cs = kk then As else As.map (·.add (kk * 3))) := ⟨_, rfl⟩
   have hcut := cut_from (P := Try.prog) 25 52 .i64 Try.underlying25 aE 3 aB As its.length cs (kk : Int) (by omega) (by omega)
   rw [Int.toNat_natCast, ← aD, ← hlen] at hcut
   have hF : Aside0 (Kd.F k52 w5 (fun q => (w.heap.size ≤ q ∧ q ≠ gf) ∧ q ≠ gr) A2 yd.length yd) := ⟨by rw [aD, hyd]; exact Kd.F_cut HX.out.z.s hk HX.out.z.l⟩
   have aU : Aside0 (yd.length ≤ cs - kk) := ⟨by have := HX.out.z.l; omega⟩
   clear hlen hyd aD hk
   go_wp2
   refine bodyPost_ret (results_cell_row rfl _ _ gr 27 #[.int .i64 n, .int .i64 fr, .slice A2 yd.length (cs - kk)] (0, 0) _ rfl (Lz.box (HX.out.z.items aU.out hF.out)) Try.underlying27 rfl (by kernel_rfl)) rfl ?_
   exact Lz.out (HX.out.z.items aU.out hF.out)
  rw [if_neg c2] at H
  have d2 := beq_eq_false_iff_ne.mpr c2
  clear c2
  by_cases c3 : v = 3
  ·
   skip
   subst c3
   rw [if_pos rfl] at H
   obtain ⟨yd, hyd⟩ : ∃ y_ : List S52, y_ = its.take kk := ⟨_, rfl⟩
   rw [← hyd] at H
   simp only [Option.some.injEq, Prod.mk.injEq] at H
   obtain ⟨rfl, rfl, rfl, rfl, rfl⟩ := H
   have hk := HK.out.1
   have hlen : yd.length = kk := by rw [hyd, List.length_take]; omega
   obtain ⟨i0, aE, _, aB, _⟩ := info_parts info52
   have hcut : ∀ W : World, (Instr.slice 25 (.slice As its.length cs) none (some (.int .i64 (kk : Int))) none).run Try.prog W = .ok (.slice As yd.length cs) W := fun W => by have h_ := cut_to (P := Try.prog) 25 52 .i64 Try.underlying25 aE As its.length cs (kk : Int) (by omega) (by omega) HX.out.z.l W; rw [Int.toNat_natCast] at h_; rw [hlen]; exact h_
   have hF : Aside0 (Kd.F k52 w5 (fun q => (w.heap.size ≤ q ∧ q ≠ gf) ∧ q ≠ gr) As yd.length yd) := ⟨by rw [hyd]; exact Kd.F_take HX.out.z.s hk⟩
   have aU : Aside0 (yd.length ≤ cs) := ⟨by have := HX.out.z.l; omega⟩
   clear hlen hyd hk
   go_wp2
   refine bodyPost_ret (results_cell_row rfl _ _ gr 27 #[.int .i64 n, .int .i64 fr, .slice As yd.length cs] (0, 0) _ rfl (Lz.box (HX.out.z.items aU.out hF.out)) Try.underlying27 rfl (by kernel_rfl)) rfl ?_
   exact Lz.out (HX.out.z.items aU.out hF.out)
  rw [if_neg c3] at H
  have d3 := beq_eq_false_iff_ne.mpr c3
  clear c3
  by_cases c4 : its.length = 0
  ·
   skip
   rw [if_pos c4] at H
   simp only [Option.some.injEq, Prod.mk.injEq] at H
   obtain ⟨rfl, rfl, rfl, rfl, rfl⟩ := H
   have cb : decide (0 < its.length) = false := decide_eq_false (by omega)
   have c5 := Aside0.mk c4
   clear c4
   by_cases e4 : v = 4
   · have d4 := beq_iff_eq.mpr e4
     clear e4
     go_wp2
     refine bodyPost_ret (results_cell_row rfl _ _ gr 27 #[.int .i64 n, .int .i64 fr, .slice As its.length cs] (0, 0) _ rfl (Lz.box HX.out.z) Try.underlying27 rfl (by kernel_rfl)) rfl ?_
     exact Lz.out HX.out.z
   have d4 := beq_eq_false_iff_ne.mpr e4
   clear e4
   by_cases e5 : v = 5
   · have d5 := beq_iff_eq.mpr e5
     clear e5
     go_wp2
     refine bodyPost_ret (results_cell_row rfl _ _ gr 27 #[.int .i64 n, .int .i64 fr, .slice As its.length cs] (0, 0) _ rfl (Lz.box HX.out.z) Try.underlying27 rfl (by kernel_rfl)) rfl ?_
     exact Lz.out HX.out.z
   have d5 := beq_eq_false_iff_ne.mpr e5
   clear e5
   by_cases e6 : v = 6
   · have d6 := beq_iff_eq.mpr e6
     clear e6
     go_wp2
     refine bodyPost_ret (results_cell_row rfl _ _ gr 27 #[.int .i64 n, .int .i64 fr, .slice As its.length cs] (0, 0) _ rfl (Lz.box HX.out.z) Try.underlying27 rfl (by kernel_rfl)) rfl ?_
     exact Lz.out HX.out.z
   have d6 := beq_eq_false_iff_ne.mpr e6
   clear e6
   go_wp2
   refine bodyPost_ret (results_cell_row rfl _ _ gr 27 #[.int .i64 n, .int .i64 fr, .slice As its.length cs] (0, 0) _ rfl (Lz.box HX.out.z) Try.underlying27 rfl (by kernel_rfl)) rfl ?_
   exact Lz.out HX.out.z
  rw [if_neg c4] at H
  have hp : 0 < its.length := Nat.pos_of_ne_zero c4
  have cb : decide (0 < its.length) = true := decide_eq_true hp
  have hkl : kk < its.length := HK.out.2 hp
  obtain ⟨gs, rfl⟩ := lb_head HX.out.s hp
  have HP := Aside0.mk hp
  clear hp c4
  by_cases c4 : v = 4
  ·
   skip
   subst c4
   rw [if_pos rfl] at H
   simp only [Option.some.injEq, Prod.mk.injEq] at H
   obtain ⟨rfl, rfl, rfl, rfl, rfl⟩ := H
   obtain ⟨⟨u, x0⟩, x1, x2⟩ := lb_val HX.out.s kk hkl ⟨#[98, 101, 110, 116]⟩ rfl
   have aA := q_ (HX.out.put (List.length_set).symm x2)
   clear x2
   obtain ⟨g1, g2, g3, g4⟩ := HX.out.ok
   go_wp2
   refine bodyPost_ret (results_cell_row rfl _ _ gr 27 #[.int .i64 n, .int .i64 fr, .slice (some ⟨gs, 0, none⟩) its.length cs] (0, 0) _ rfl (Lz.box aA.out) Try.underlying27 rfl (by kernel_rfl)) rfl ?_
   exact Lz.out aA.out
  rw [if_neg c4] at H
  have d4 := beq_eq_false_iff_ne.mpr c4
  clear c4
  by_cases c5 : v = 5
  ·
   skip
   subst c5
   rw [if_pos rfl] at H
   obtain ⟨HPL, H⟩ := ia_ H
   simp only [Option.some.injEq, Prod.mk.injEq] at H
   obtain ⟨rfl, rfl, rfl, rfl, rfl⟩ := H
   go_wp2
   have aA := q_ HX.out.drew
   obtain ⟨okj, v2, bA, hR, hnew, hpath⟩ := aA.out.path hkl
   have HQ := q_ hR
   have HN := q_ hnew
   have bI := q_ hpath
   clear hR hnew hpath
   refine sr_ (fun w' => w'.cell? ⟨gf, 2, none⟩ = some (.slice (some ⟨gs, 0, none⟩) its.length cs) ∧ w'.cell? ⟨gs, kk * 3 + 2, none⟩ = some v2) [13] spec_l5Bend.tab19 spec_l5Bend.bits19 ⟨aA.out.f.cells.2.2.1, bA⟩ (fun hD hT hW => ?_)
   generalize w5.drew = w6 at aA HQ HN bI bA hD ⊢
   refine p_ 0 72 hT ?_; refine p_ 2 74 hT ?_; refine p_ 3 75 hT ?_; refine p_ 5 77 hT ?_; refine k_ 1 73 hT hW hD ?_; refine k_ 4 76 hT hW hD ?_; refine p_ 6 78 hT ?_; refine p_ 7 79 hT ?_; refine k_ 8 80 hT hW hD ?_
   refine on_ 9 (some 81) (bq_ 10 4) hT (fun K hK => ?_)
   refine value_ (w1 := ?_) (v := ?_) (by rfl) rfl ?_ ?_
   rotate_left 2
   · go_simp
     constructor
     · rfl
     · rfl
   refine hK.out _ _ ⟨hc_ (below_alloc (Below.refl _ _) _) aA.out.f.cells.2.2.1, hc_ (below_alloc (Below.refl _ _) _) bA⟩ (fun hD => ?_)
   clear hK K
   refine nm_ ?_
   refine on_ 10 (some 82) (bq_ 11 3) hT (fun K hK => ?_)
   refine Kd.R_append_step Kd.string (w0 := w6) w.heap.size (by rfl) (.tmp 80) (.tmp 81) 50 9 (.string ⟨#[]⟩) 16 rfl Try.underlying50 info9 rfl (by decide) (by omega) v2 (spec_l5Bend.x its kk).f1 ⟨#[120]⟩ [.string ⟨#[120]⟩] okj (fun _ => False) rfl rfl rfl (fun _ h => h.elim) HN.out HQ.out (Below.refl _ _) aA.out.t.k.1 (by have := HPL.out; omega) ?_
   intro v1 w7 ho hb hg hat
   obtain ⟨A1, m1, c1, ev⟩ : ∃ A1 m1 c1, v1 = .slice A1 m1 c1 := by obtain ⟨A1, c1, ev⟩ := Kd.R_slice ho; exact ⟨_, _, _, ev⟩
   subst ev
   obtain ⟨hz, hfz, hbx, hlz⟩ := bI.out w7 _ _ hg ho
   have HZ := q_ hlz
   clear ho hb hg hat hlz bI HQ HN
   refine hK.out _ _ ⟨hbx.cells.2.2.1, hz⟩ (fun hD => ?_)
   clear hK K
   refine nm_ ?_
   refine p_ 11 83 hT ?_; refine p_ 12 84 hT ?_
   refine last_ (i := 13) (N := none) (bq_ 14 0) rfl rfl (one_of hT.out (by kernel_rfl)) (by decide) (fun K hK => ?_)
   refine skip_ (w1 := ?_) (by rfl) rfl ?_ ?_
   rotate_left
   · go_simp
     rfl
   refine hK.out _ _ ?_
   clear hK K
   refine done_ (done_of hT.out (by kernel_rfl)) ?_
   clear hz hfz hbx hD bA aA hT hW
   generalize w7.setCell ⟨gs, kk * 3 + 2, none⟩ (.slice A1 m1 c1) = w8 at HZ ⊢
   obtain ⟨aK, aJ, aI, aN, aM, aL⟩ := HZ.out.f.cells
   obtain ⟨bD, bC, bB, bG, bF, bE⟩ := HZ.out.r.cells
   go_wp2
   refine bodyPost_ret (results_cell_row rfl _ _ gr 27 #[.int .i64 n, .int .i64 fr, .slice (some ⟨gs, 0, none⟩) its.length cs] (0, 0) _ rfl (Lz.box HZ.out) Try.underlying27 rfl (by kernel_rfl)) rfl ?_
   exact Lz.out HZ.out
  rw [if_neg c5] at H
  have d5 := beq_eq_false_iff_ne.mpr c5
  clear c5
  by_cases c6 : v = 6
  ·
   skip
   subst c6
   rw [if_pos rfl] at H
   obtain ⟨yt, hyt⟩ : ∃ y_ : List S52, y_ = its.take kk := ⟨_, rfl⟩
   obtain ⟨yd, hyd⟩ : ∃ y_ : List S52, y_ = its.drop kk := ⟨_, rfl⟩
   obtain ⟨yx, hyx⟩ : ∃ y_ : S52, y_ = spec_l5Bend.x its kk := ⟨_, rfl⟩
   obtain ⟨yr, hyr⟩ : ∃ y_ : List S52, y_ = yt ++ [yx] ++ yd := ⟨_, rfl⟩
   rw [← hyt, ← hyd, ← hyx, ← hyr] at H
   simp only [Option.some.injEq, Prod.mk.injEq] at H
   obtain ⟨rfl, rfl, rfl, rfl, rfl⟩ := H
   have hlt : yt.length = kk := by rw [hyt, List.length_take]; omega
   have hld : yd.length = its.length - kk := by rw [hyd, List.length_drop]
   have hk := HK.out.1
   obtain ⟨i0, aE, _, aB, _⟩ := info_parts info52
   obtain ⟨A2, aD⟩ : ∃ A1, A1 = (if cs = kk then (some ⟨gs, 0, none⟩ : Option Addr) else (some ⟨gs, 0, none⟩ : Option Addr).map (·.add (kk * 3))) := ⟨_, rfl⟩
   have aV := cut_from (P := Try.prog) 25 52 .i64 Try.underlying25 aE 3 aB (some ⟨gs, 0, none⟩) its.length cs (kk : Int) (by omega) (by omega)
   rw [Int.toNat_natCast, ← aD, ← hld] at aV
   have hcut : ∀ W : World, (Instr.slice 25 (.slice (some ⟨gs, 0, none⟩) its.length cs) none (some (.int .i64 (kk : Int))) none).run Try.prog W = .ok (.slice (some ⟨gs, 0, none⟩) yt.length cs) W := fun W => by have h_ := cut_to (P := Try.prog) 25 52 .i64 Try.underlying25 aE (some ⟨gs, 0, none⟩) its.length cs (kk : Int) (by omega) (by omega) HX.out.z.l W; rw [Int.toNat_natCast] at h_; rw [hlt]; exact h_
   have aA := q_ HX.out.drew
   have FT : Aside0 (Kd.F k52 w5.drew (okX w w5.drew gf gr) (some ⟨gs, 0, none⟩) yt.length yt) := ⟨by rw [hyt]; exact Kd.F_bound (Kd.F_take aA.out.z.s hk)⟩
   have FD : Aside0 (Kd.F k52 w5.drew (okX w w5.drew gf gr) A2 yd.length yd) := ⟨by rw [aD, hyd]; exact Kd.F_bound (Kd.F_cut aA.out.z.s hk aA.out.z.l)⟩
   obtain ⟨ad, cx, had, hcx, hFK, hcc, _⟩ := Kd.F_get (Kd.F_bound aA.out.z.s) z52 (kk : Int) (by omega) (by omega)
   injection had with had
   subst had
   have aC : Kd.FK k52 w5.drew (okX w w5.drew gf gr) yx cx := by rw [hyx]; exact hFK
   obtain ⟨A3, c3, rfl, bV, bW⟩ := k52_openF aC
   have ha : ∀ j, (Addr.mk gs 0 none).add ((kk : Int).toNat * 3 + j) = ⟨gs, kk * 3 + j, none⟩ := fun j => by rw [Int.toNat_natCast]; unfold Addr.add; split <;> simp_all
   have aZ : w5.drew.cell? ⟨gs, kk * 3, none⟩ = some (.string yx.f0.f0) := (congrArg w5.drew.cell? (ha 0)).symm.trans (hcc 0 _ rfl)
   have aY : w5.drew.cell? ⟨gs, kk * 3 + 1, none⟩ = some (.string yx.f0.f1) := (congrArg w5.drew.cell? (ha 1)).symm.trans (hcc 1 _ rfl)
   have aX : w5.drew.cell? ⟨gs, kk * 3 + 2, none⟩ = some (.slice A3 yx.f1.length c3) := (congrArg w5.drew.cell? (ha 2)).symm.trans (hcc 2 _ rfl)
   have LEN := q_ (And.intro hlt hld)
   have FX := q_ aC
   have NR := Aside0.mk hyr
   have HLL := Aside0.mk hkl
   clear hFK aC hcc ha hcx bV bW hyt hyd hyx hyr hlt hld aD hk
   go_wp2
   refine sr_ (fun w' => w'.cell? ⟨gf, 2, none⟩ = some (.slice (some ⟨gs, 0, none⟩) its.length cs) ∧ w'.cell? ⟨gs, kk * 3, none⟩ = some (.string yx.f0.f0) ∧ w'.cell? ⟨gs, kk * 3 + 1, none⟩ = some (.string yx.f0.f1) ∧ w'.cell? ⟨gs, kk * 3 + 2, none⟩ = some (.slice A3 yx.f1.length c3)) [19] spec_l5Bend.tab22 spec_l5Bend.bits22 ⟨aA.out.f.cells.2.2.1, aZ, aY, aX⟩ (fun hD hT hW => ?_)
   generalize w5.drew = wd at aA FT FD FX aZ aY aX hD ⊢
   have HH : ∀ W' : World, Below wd.heap.size wd W' → W'.cell? ⟨gf, 2, none⟩ = some (.slice (some ⟨gs, 0, none⟩) its.length cs) ∧ W'.cell? ⟨gs, kk * 3, none⟩ = some (.string yx.f0.f0) ∧ W'.cell? ⟨gs, kk * 3 + 1, none⟩ = some (.string yx.f0.f1) ∧ W'.cell? ⟨gs, kk * 3 + 2, none⟩ = some (.slice A3 yx.f1.length c3) := fun W' hb => ⟨hc_ hb aA.out.f.cells.2.2.1, hc_ hb aZ, hc_ hb aY, hc_ hb aX⟩
   replace HH := q_ HH
   clear aZ aY aX
   have HB := q_ (Below.refl wd.heap.size wd)
   refine p_ 1 92 hT ?_; refine p_ 3 94 hT ?_; refine p_ 6 97 hT ?_; refine p_ 8 99 hT ?_; refine p_ 13 104 hT ?_; refine p_ 15 106 hT ?_; refine k_ 2 93 hT hW hD ?_; refine k_ 7 98 hT hW hD ?_; refine k_ 14 105 hT hW hD ?_; refine p_ 4 95 hT ?_; refine p_ 9 100 hT ?_; refine k_ 10 101 hT hW hD ?_; refine p_ 16 107 hT ?_
   refine join_ (σ := Value × Value × Value) 4 (br_ [12, 1, 4, 3]) (fun s_ => [(91, s_.1), (96, s_.2.1), (102, s_.2.2)]) (fun s_ w' => Below wd.heap.size wd w' ∧ Kd.N k52 52 w' wd.heap.size (okN w wd gf gr) s_.2.1 yt ∧ LbLit w wd w' gf gr s_.2.1 s_.2.2 yx) ?_ ?_
   rotate_left
   ·
    intro hCont
    refine two_ (i := 0) (j := 11) (Ni := some 91) (Nj := some 102) (br_ [5, 1, 5, 2, 4, 3]) (br_ [0, 1, 4, 1, 6, 1, 4, 3]) rfl rfl rfl rfl (two_of hT.out (by kernel_rfl)) (by decide) (by decide) (fun K hK => ?_) (fun K hK => ?_)
    ·
     skip
     refine Kd.N_lit_step k52 (w0 := wd) wd.heap.size 52 ?hg (N' := 91) ?hd (xs := ([] : List S52)) (inner := []) (ok := okN w wd gf gr) (okp := fun _ => False) ?hr ?hp (fun _ hk => hk.elim) (.inr HB.out.size) HB.out HB.out.size (by simp) ?_; (case hd => rfl); (case hg => rfl); (case hr => first | (go_simp; done) | (go_simp; rfl)); (case hp => exact (Reps.none _ _))
     intro v0 w7 ho hb hg hat
     have HN := q_ ho
     replace HB := q_ hb
     clear ho hb hg hat
     refine hK.out _ _ (HH.out _ HB.out) (fun hD => ?_)
     clear hK K
     refine nm_ ?_
     refine two_ (i := 5) (j := 11) (Ni := some 96) (Nj := some 102) (br_ [11, 2, 4, 3]) (br_ [5, 1, 6, 1, 4, 3]) rfl rfl rfl rfl (two_of hT.out (by kernel_rfl)) (by decide) (by decide) (fun K hK => ?_) (fun K hK => ?_)
     ·
      skip
      refine Kd.N_append_rows_step k52 (w0 := wd) wd.heap.size (by rfl) (.tmp 91) (.tmp 95) 25 52 (.agg #[(.string ⟨#[]⟩), (.string ⟨#[]⟩), (.slice none 0 0)]) 56 rfl Try.underlying25 info52 rfl (by decide) (by omega) v0 [] yt _ _ _ (okN w wd gf gr) (okX w wd gf gr) rfl rfl HN.out (Kd.F_below FT.out HB.out) (okX_ok (Kd.N_base HN.out)) (fun k hk => .inr (Nat.le_trans HB.out.size hk)) HB.out HB.out.size (by have := LEN.out.1; have := HLL.out; have := aW.out; simp only [List.length_nil]; omega) ?_
      intro v1 w8 ho hb hg hat
      rw [List.nil_append] at ho
      replace HN := q_ ho
      replace HB := q_ hb
      clear ho hb hg hat
      refine hK.out _ _ (HH.out _ HB.out) (fun hD => ?_)
      clear hK K
      refine nm_ ?_
      refine on_ 11 (some 102) (br_ [12, 1, 4, 3]) hT (fun K hK => ?_)
      refine Kd.N_lit_step k52 (w0 := wd) wd.heap.size 52 ?hg (N' := 102) ?hd (xs := [yx]) (inner := [.string yx.f0.f0, .string yx.f0.f1, .slice A3 yx.f1.length c3]) (ok := fun k => okX w wd gf gr k ∨ k = w8.heap.size) (okp := okX w wd gf gr) ?hr ?hp (fun _ hk => .inl hk) (.inr rfl) HB.out HB.out.size (by simp) ?_; (case hd => rfl); (case hg => rfl); (case hr => first | (go_simp; done) | (go_simp; rfl)); (case hp => exact lb_reps rfl (Kd.FK_below FX.out HB.out))
      intro v2 w9 ho hb hg hat
      have hlt : w8.heap.size < w9.heap.size := by obtain ⟨q, hq, hl⟩ := hat; have := Kd.N_lt ho q hq; omega
      have HL := q_ (lb_lit (u := v1) ho HB.out.size hlt (fun e => by have := Kd.N_lt HN.out _ e.symm; omega))
      replace HN := q_ (Kd.N_below HN.out (lb_gb hg))
      replace HB := q_ hb
      clear ho hb hg hat hlt
      refine hK.out _ _ (HH.out _ HB.out) (fun hD => ?_)
      clear hK K
      refine nm_ ?_
      exact norm_ (by simp only [putAll, Act.put, sa_, sz_, ss_]) (hCont (v0, v1, v2) _ ⟨HB.out, HN.out, HL.out⟩)
     ·
      skip
      refine Kd.N_lit_step k52 (w0 := wd) wd.heap.size 52 ?hg (N' := 102) ?hd (xs := [yx]) (inner := [.string yx.f0.f0, .string yx.f0.f1, .slice A3 yx.f1.length c3]) (ok := fun k => okX w wd gf gr k ∨ k = w7.heap.size) (okp := okX w wd gf gr) ?hr ?hp (fun _ hk => .inl hk) (.inr rfl) HB.out HB.out.size (by simp) ?_; (case hd => rfl); (case hg => rfl); (case hr => first | (go_simp; done) | (go_simp; rfl)); (case hp => exact lb_reps rfl (Kd.FK_below FX.out HB.out))
      intro v2 w9 ho hb hg hat
      have hlt : w7.heap.size < w9.heap.size := by obtain ⟨q, hq, hl⟩ := hat; have := Kd.N_lt ho q hq; omega
      have HL := q_ (lb_lit (u := v0) ho HB.out.size hlt (fun e => by have := Kd.N_lt HN.out _ e.symm; omega))
      replace HN := q_ (Kd.N_below HN.out (lb_gb hg))
      replace HB := q_ hb
      clear ho hb hg hat hlt
      refine hK.out _ _ (HH.out _ HB.out) (fun hD => ?_)
      clear hK K
      refine nm_ ?_
      refine on_ 5 (some 96) (br_ [12, 1, 4, 3]) hT (fun K hK => ?_)
      refine Kd.N_append_rows_step k52 (w0 := wd) wd.heap.size (by rfl) (.tmp 91) (.tmp 95) 25 52 (.agg #[(.string ⟨#[]⟩), (.string ⟨#[]⟩), (.slice none 0 0)]) 56 rfl Try.underlying25 info52 rfl (by decide) (by omega) v0 [] yt _ _ _ (okN w wd gf gr) (okX w wd gf gr) rfl rfl HN.out (Kd.F_below FT.out HB.out) (okX_ok (Kd.N_base HN.out)) (fun k hk => .inr (Nat.le_trans HB.out.size hk)) HB.out HB.out.size (by have := LEN.out.1; have := HLL.out; have := aW.out; simp only [List.length_nil]; omega) ?_
      intro v1 w8 ho hb hg hat
      rw [List.nil_append] at ho
      replace HL := q_ (HL.out.after (Kd.N_base HN.out) hg hat)
      replace HN := q_ ho
      replace HB := q_ hb
      clear ho hb hg hat
      refine hK.out _ _ (HH.out _ HB.out) (fun hD => ?_)
      clear hK K
      refine nm_ ?_
      exact norm_ (by simp only [putAll, Act.put, sa_, sz_, ss_]) (hCont (v0, v1, v2) _ ⟨HB.out, HN.out, HL.out⟩)
    ·
     skip
     refine Kd.N_lit_step k52 (w0 := wd) wd.heap.size 52 ?hg (N' := 102) ?hd (xs := [yx]) (inner := [.string yx.f0.f0, .string yx.f0.f1, .slice A3 yx.f1.length c3]) (ok := fun k => okX w wd gf gr k ∨ k = wd.heap.size) (okp := okX w wd gf gr) ?hr ?hp (fun _ hk => .inl hk) (.inr rfl) HB.out HB.out.size (by simp) ?_; (case hd => rfl); (case hg => rfl); (case hr => first | (go_simp; done) | (go_simp; rfl)); (case hp => exact lb_reps rfl (Kd.FK_below FX.out HB.out))
     intro v2 w9 ho hb hg hat
     have hlt : wd.heap.size < w9.heap.size := by obtain ⟨q, hq, hl⟩ := hat; have := Kd.N_lt ho q hq; omega
     have HL := q_ (lb_lit (u := .slice none 0 0) ho HB.out.size hlt (by simp [Value.ownBlock]))
     replace HB := q_ hb
     clear ho hb hg hat hlt
     refine hK.out _ _ (HH.out _ HB.out) (fun hD => ?_)
     clear hK K
     refine nm_ ?_
     refine on_ 0 (some 91) (br_ [5, 1, 6, 1, 4, 3]) hT (fun K hK => ?_)
     refine Kd.N_lit_step k52 (w0 := wd) wd.heap.size 52 ?hg (N' := 91) ?hd (xs := ([] : List S52)) (inner := []) (ok := okN w wd gf gr) (okp := fun _ => False) ?hr ?hp (fun _ hk => hk.elim) (.inr HB.out.size) HB.out HB.out.size (by simp) ?_; (case hd => rfl); (case hg => rfl); (case hr => first | (go_simp; done) | (go_simp; rfl)); (case hp => exact (Reps.none _ _))
     intro v0 w7 ho hb hg hat
     have HN := q_ ho
     replace HL := q_ (HL.out.below (u1 := v0) (lb_gb hg) (fun k hk => by obtain ⟨q, hq, hl⟩ := hat; rw [hq] at hk; injection hk with hk; omega))
     replace HB := q_ hb
     clear ho hb hg hat
     refine hK.out _ _ (HH.out _ HB.out) (fun hD => ?_)
     clear hK K
     refine nm_ ?_
     refine on_ 5 (some 96) (br_ [12, 1, 4, 3]) hT (fun K hK => ?_)
     refine Kd.N_append_rows_step k52 (w0 := wd) wd.heap.size (by rfl) (.tmp 91) (.tmp 95) 25 52 (.agg #[(.string ⟨#[]⟩), (.string ⟨#[]⟩), (.slice none 0 0)]) 56 rfl Try.underlying25 info52 rfl (by decide) (by omega) v0 [] yt _ _ _ (okN w wd gf gr) (okX w wd gf gr) rfl rfl HN.out (Kd.F_below FT.out HB.out) (okX_ok (Kd.N_base HN.out)) (fun k hk => .inr (Nat.le_trans HB.out.size hk)) HB.out HB.out.size (by have := LEN.out.1; have := HLL.out; have := aW.out; simp only [List.length_nil]; omega) ?_
     intro v1 w8 ho hb hg hat
     rw [List.nil_append] at ho
     replace HL := q_ (HL.out.after (Kd.N_base HN.out) hg hat)
     replace HN := q_ ho
     replace HB := q_ hb
     clear ho hb hg hat
     refine hK.out _ _ (HH.out _ HB.out) (fun hD => ?_)
     clear hK K
     refine nm_ ?_
     exact norm_ (by simp only [putAll, Act.put, sa_, sz_, ss_]) (hCont (v0, v1, v2) _ ⟨HB.out, HN.out, HL.out⟩)
   rintro ⟨v0, v1, v2⟩ w6 ⟨bH, bK, bU⟩
   obtain ⟨Al, cl, bl, rfl, bP, aG, aF, bO⟩ := bU
   have hD := HH.out _ bH
   replace HB := q_ bH
   have HN := q_ bK
   have bQ := q_ bP
   have bJ := q_ (And.intro aG bO)
   clear bH bK bP aG aF bO
   refine norm_ (a' := ?_) ?_ ?_
   rotate_left
   · simp only [putAll, Act.put, sa_, sz_, ss_]
     rfl
   refine on_ 12 (some 103) (bq_ 17 3) hT (fun K hK => ?_)
   refine Kd.N_append_rows_step k52 (w0 := wd) wd.heap.size (by rfl) (.tmp 96) (.tmp 102) 25 52 (.agg #[(.string ⟨#[]⟩), (.string ⟨#[]⟩), (.slice none 0 0)]) 56 rfl Try.underlying25 info52 rfl (by decide) (by omega) v1 yt [yx] _ _ _ (okN w wd gf gr) (fun k => okX w wd gf gr k ∨ k = bl) rfl rfl HN.out bQ.out (LbLit.ok (A := none) (m := 0) (c := 0) (Kd.N_base HN.out) bJ.out.1 bJ.out.2) (fun k hk => .inr (Nat.le_trans HB.out.size hk)) HB.out HB.out.size (by have := LEN.out.1; have := HLL.out; have := aW.out; omega) ?_
   intro v3 w7 ho hb hg hat
   replace HN := q_ ho
   replace HB := q_ hb
   clear ho hb hg hat bQ bJ
   refine hK.out _ _ (HH.out _ HB.out) (fun hD => ?_)
   clear hK K
   refine nm_ ?_
   refine on_ 17 (some 108) (bq_ 18 2) hT (fun K hK => ?_)
   refine Kd.N_append_rows_step k52 (w0 := wd) wd.heap.size (by rfl) (.tmp 103) (.tmp 107) 25 52 (.agg #[(.string ⟨#[]⟩), (.string ⟨#[]⟩), (.slice none 0 0)]) 56 rfl Try.underlying25 info52 rfl (by decide) (by omega) v3 (yt ++ [yx]) yd _ _ _ (okN w wd gf gr) (okX w wd gf gr) rfl rfl HN.out (Kd.F_below FD.out HB.out) (okX_ok (Kd.N_base HN.out)) (fun k hk => .inr (Nat.le_trans HB.out.size hk)) HB.out HB.out.size (by have := LEN.out.1; have := LEN.out.2; have := HLL.out; have := aW.out; simp only [List.length_append, List.length_singleton]; omega) ?_
   intro v4 w8 ho hb hg hat
   rw [← NR.out] at ho
   replace HB := q_ hb
   obtain ⟨A4, c4, rfl⟩ := Kd.N_slice ho
   have bL := (Kd.N_reads' ho).2.1
   have bR := blk_lt aA.out.f
   have bS := blk_lt aA.out.r
   have bT := aA.out.t.k.1
   have HZ := q_ ((aA.out.below HB.out).z.items bL (Kd.F_mono (Kd.N_F ho) (fun k hk => by rcases hk with hk | hk; exact hk.1; exact ⟨⟨by have := aA.out.t.l; omega, by omega⟩, by omega⟩)))
   clear ho hb hg hat bL bR bS bT
   refine hK.out _ _ (HH.out _ HB.out) (fun hD => ?_)
   clear hK K
   refine nm_ ?_
   refine p_ 18 109 hT ?_
   refine last_ (i := 19) (N := none) (bq_ 20 0) rfl rfl (one_of hT.out (by kernel_rfl)) (by decide) (fun K hK => ?_)
   obtain ⟨aK, aJ, aI, aN, aM, aL⟩ := (aA.out.below HB.out).f.cells
   refine skip_ (w1 := ?_) (by rfl) rfl ?_ ?_
   rotate_left
   · go_simp
     rfl
   refine hK.out _ _ ?_
   clear hK K
   refine done_ (done_of hT.out (by kernel_rfl)) ?_
   clear hD HH aA FT FD FX hT hW aK aJ aI aN aM aL HB
   generalize w8.setCell ⟨gf, 2, none⟩ (.slice A4 yr.length c4) = w9 at HZ ⊢
   obtain ⟨aK, aJ, aI, aN, aM, aL⟩ := HZ.out.f.cells
   obtain ⟨bD, bC, bB, bG, bF, bE⟩ := HZ.out.r.cells
   go_wp2
   refine bodyPost_ret (results_cell_row rfl _ _ gr 27 #[.int .i64 n, .int .i64 fr, .slice A4 yr.length c4] (0, 0) _ rfl (Lz.box HZ.out) Try.underlying27 rfl (by kernel_rfl)) rfl ?_
   exact Lz.out HZ.out
  rw [if_neg c6] at H
  have d6 := beq_eq_false_iff_ne.mpr c6
  clear c6
  simp only [Option.some.injEq, Prod.mk.injEq] at H
  obtain ⟨rfl, rfl, rfl, rfl, rfl⟩ := H
  go_wp2
  refine bodyPost_ret (results_cell_row rfl _ _ gr 27 #[.int .i64 n, .int .i64 fr, .slice (some ⟨gs, 0, none⟩) its.length cs] (0, 0) _ rfl (Lz.box HX.out.z) Try.underlying27 rfl (by kernel_rfl)) rfl ?_
  exact Lz.out HX.out.z
structure La (w : World) (g gr : Nat) (s0 : List Int) (q y : Int) (W : World) : Prop where
 i : IsS61 w W g s0 q y
 b : Below w.heap.size w W
 r : Bx W gr (.int .i64 0) (.int .i64 0) (.slice none 0 0)
 e : w.heap.size ≤ gr
 ne : g ≠ gr
structure Lp (w : World) (g gr : Nat) (s0 : List Int) (v : Value) (l : List S45) (q y : Int) (W : World) : Prop where
 a : La w g gr s0 q y W
 d : Kd.R k45 45 W w.heap.size (fun k => k ≠ g ∧ k ≠ gr) v l
structure Ld (w : World) (g gr gf B : Nat) (s0 : List Int) (v : Value) (l : List S45) (n fr : Int) (its : List S52) (A : Option Addr) (c : Nat) (q y : Int) (W : World) : Prop where
 a : La w g gr s0 q y W
 d : Kd.R k45 45 W w.heap.size (fun k => (k ≠ g ∧ k ≠ gr) ∧ k ≠ gf) v l
 f : Bx W gf (.int .i64 n) (.int .i64 fr) (.slice A its.length c)
 s : Kd.F k52 W (fun k => B ≤ k ∧ k ≠ gf) A its.length its
 c : its.length ≤ c
 g : g < B
 r : gr < B
 z : w.heap.size ≤ B
 h : B ≤ gf
 o : ∀ k, v.ownBlock = some k → k < B
section
variable {w W W1 : World} {g gr gf B : Nat} {s0 : List Int} {q y q' y' n fr : Int} {v : Value} {l : List S45} {its : List S52} {A : Option Addr} {c : Nat}
theorem La.state (h : La w g gr s0 q y W) (hi : IsS61 w W1 g s0 q' y') (hb : Below w.heap.size w W1) (hk : KeepBut W W1 g none) : La w g gr s0 q' y' W1 := ⟨hi, hb, h.r.keep hk (Ne.symm h.ne), h.e, h.ne⟩
theorem La.below (h : La w g gr s0 q y W) (hb : Below W.heap.size W W1) : La w g gr s0 q y W1 := ⟨h.i.below hb, below_then h.b h.b.size hb, h.r.below hb, h.e, h.ne⟩
theorem Lp.state (h : Lp w g gr s0 v l q y W) (hi : IsS61 w W1 g s0 q' y') (hb : Below w.heap.size w W1) (hk : KeepBut W W1 g none) : Lp w g gr s0 v l q' y' W1 := ⟨h.a.state hi hb hk, Kd.R_keep h.d hk (fun _ hk => hk.1)⟩
theorem Lp.below (h : Lp w g gr s0 v l q y W) (hb : Below W.heap.size W W1) : Lp w g gr s0 v l q y W1 := ⟨h.a.below hb, Kd.R_below h.d hb⟩
theorem La.lp {b : Nat} (h : La w g gr s0 q y W) (hb : w.heap.size ≤ b) (hd : Kd.R k45 45 W b (fun _ => True) v l) : Lp w g gr s0 v l q y W := ⟨h, Kd.R_mono (Kd.R_types (h.i.apart (Kd.R_lower hd hb) (by decide)) h.r (by decide)) (fun _ hk => ⟨hk.1.2, hk.2⟩)⟩
theorem Ld.state (h : Ld w g gr gf B s0 v l n fr its A c q y W) (hi : IsS61 w W1 g s0 q' y') (hb : Below w.heap.size w W1) (hk : KeepBut W W1 g none) : Ld w g gr gf B s0 v l n fr its A c q' y' W1 :=
 ⟨h.a.state hi hb hk, Kd.R_keep h.d hk (fun _ hk => hk.1.1), h.f.keep hk (by have := h.g; have := h.h; omega), Kd.F_keep h.s hk (fun k ho => by have := h.g; omega), h.c, h.g, h.r, h.z, h.h, h.o⟩
theorem Ld.below (h : Ld w g gr gf B s0 v l n fr its A c q y W) (hb : Below W.heap.size W W1) : Ld w g gr gf B s0 v l n fr its A c q y W1 := ⟨h.a.below hb, Kd.R_below h.d hb, h.f.below hb, Kd.F_below h.s hb, h.c, h.g, h.r, h.z, h.h, h.o⟩
theorem La.far (h : La w g gr s0 q y W) {p : Addr} (hp : w.heap.size ≤ p.block) (h1 : g ≠ p.block) (h2 : gr ≠ p.block) (u : Value) : La w g gr s0 q y (W.setCell p u) := ⟨h.i.far h1 u, h.b.setCell hp u, h.r.far h2 u, h.e, h.ne⟩
theorem ld_put {n0 f0 : Value} {i0 : Value} (ha : La w g gr s0 q y W) (hd : Kd.R k45 45 W w.heap.size (fun k => (k ≠ g ∧ k ≠ gr) ∧ k ≠ gf) v l) (hf : Bx W gf n0 f0 i0) (hs : Kd.F k52 W (fun k => B ≤ k ∧ k ≠ gf) A its.length its) (hc : its.length ≤ c) (hg : g < B) (hr : gr < B) (hz : w.heap.size ≤ B) (hh : B ≤ gf) (ho : ∀ k, v.ownBlock = some k → k < B) :
 Ld w g gr gf B s0 v l n fr its A c q y (((W.setCell ⟨gf, 0, none⟩ (.int .i64 n)).setCell ⟨gf, 1, none⟩ (.int .i64 fr)).setCell ⟨gf, 2, none⟩ (.slice A its.length c)) :=
 have k1 : w.heap.size ≤ gf := Nat.le_trans hz hh
 have k2 : g ≠ gf := by omega
 have k3 : gr ≠ gf := by omega
 ⟨((ha.far (p := ⟨gf, 0, none⟩) k1 k2 k3 _).far (p := ⟨gf, 1, none⟩) k1 k2 k3 _).far (p := ⟨gf, 2, none⟩) k1 k2 k3 _, Kd.R_far (p := ⟨gf, 2, none⟩) (Kd.R_far (p := ⟨gf, 1, none⟩) (Kd.R_far (p := ⟨gf, 0, none⟩) hd (fun _ hk => hk.2) _) (fun _ hk => hk.2) _) (fun _ hk => hk.2) _, ((hf.set0 _).set1 _).set2 _, Kd.F_far (p := ⟨gf, 2, none⟩) (Kd.F_far (p := ⟨gf, 1, none⟩) (Kd.F_far (p := ⟨gf, 0, none⟩) hs (fun _ hk => hk.2) _) (fun _ hk => hk.2) _) (fun _ hk => hk.2) _, hc, hg, hr, hz, hh, ho⟩
end
def LieEnd (w : World) (l : List S45) (lo hi : ByteArray) (n fr : Int) (its : List S52) (e : Ending) (w' : World) : Prop :=
 ∃ v0 v5, e = .returned (.tuple #[v0, .string lo, .string hi, .agg #[.int .i64 n, .int .i64 fr, v5]]) ∧ Kd.R k45 45 w' w.heap.size (fun k => w.heap.size ≤ k) v0 l ∧ Kd.V k52 52 w' w.heap.size (fun k => w.heap.size ≤ k ∧ some k ≠ v0.ownBlock) v5 its ∧ Below w.heap.size w w'
section
variable {w W : World} {g gr gf B : Nat} {s0 : List Int} {q y n fr : Int} {v : Value} {l : List S45} {its : List S52} {A : Option Addr} {c : Nat}
theorem Ld.box (h : Ld w g gr gf B s0 v l n fr its A c q y W) : Bx (((W.setCell ⟨gr, 0, none⟩ (.int .i64 n)).setCell ⟨gr, 1, none⟩ (.int .i64 fr)).setCell ⟨gr, 2, none⟩ (.slice A its.length c)) gr (.int .i64 n) (.int .i64 fr) (.slice A its.length c) := ((h.a.r.set0 _).set1 _).set2 _
theorem Ld.out (h : Ld w g gr gf B s0 v l n fr its A c q y W) (lo hi : ByteArray) : LieEnd w l lo hi n fr its (.returned (.tuple #[v, .string lo, .string hi, .agg #[.int .i64 n, .int .i64 fr, .slice A its.length c]])) (((W.setCell ⟨gr, 0, none⟩ (.int .i64 n)).setCell ⟨gr, 1, none⟩ (.int .i64 fr)).setCell ⟨gr, 2, none⟩ (.slice A its.length c)) :=
 have hn : ∀ k, (B ≤ k ∧ k ≠ gf) → k ≠ gr := fun k hk => by have := h.r; omega
 ⟨v, _, rfl, Kd.R_mono (Kd.R_bound (Kd.R_far (p := ⟨gr, 2, none⟩) (Kd.R_far (p := ⟨gr, 1, none⟩) (Kd.R_far (p := ⟨gr, 0, none⟩) h.d (fun _ hk => hk.1.2) _) (fun _ hk => hk.1.2) _) (fun _ hk => hk.1.2) _)) (fun _ hk => hk.2.1), Kd.V_mk h.c (Kd.F_mono (Kd.F_far (p := ⟨gr, 2, none⟩) (Kd.F_far (p := ⟨gr, 1, none⟩) (Kd.F_far (p := ⟨gr, 0, none⟩) h.s hn _) hn _) hn _) (fun k hk => ⟨Nat.le_trans h.z hk.1, fun e => by have := h.o k e.symm; have := hk.1; omega⟩)), ((h.a.b.setCell (p := ⟨gr, 0, none⟩) h.a.e _).setCell (p := ⟨gr, 1, none⟩) h.a.e _).setCell (p := ⟨gr, 2, none⟩) h.a.e _⟩
end
def spec_DrawLie.e (s0 : List Int) (l : List S45) (lo hi : ByteArray) (n fr : Int) (its : List S52) (q y : Int) : Option (List S45 × ByteArray × ByteArray × Int × Int × List S52) :=
 (spec_l1Once.f s0 q y 4).bind fun o => if o.1 = true then (spec_l3Ends.f s0 o.2.1 o.2.2).bind fun e => some (l, e.1, e.2.1, n, fr, its) else some (l, lo, hi, n, fr, its)
def spec_DrawLie.d (k : Nat) (s0 : List Int) (l : List S45) (lo hi : ByteArray) (n fr : Int) (its : List S52) (q y : Int) : Option (List S45 × ByteArray × ByteArray × Int × Int × List S52) :=
 (spec_l1Once.f s0 q y 2).bind fun o => if o.1 = true then (spec_l5Bend.f k s0 o.2.1 o.2.2 n fr its).bind fun b => spec_DrawLie.e s0 l lo hi b.1 b.2.1 b.2.2.1 b.2.2.2.1 b.2.2.2.2 else spec_DrawLie.e s0 l lo hi n fr its o.2.1 o.2.2
def spec_DrawLie.f (k : Nat) (s9 : List Int) : Option (List S45 × ByteArray × ByteArray × Int × Int × List S52) :=
 (spec_l1New.f k s9).bind fun t => (spec_l3Draw.f k t.1 t.2.1 t.2.2).bind fun d => (spec_l3Ends.f t.1 d.2.1 d.2.2).bind fun e => (spec_ProveBetween.f k d.1 e.1 e.2.1).bind fun p => spec_DrawLie.d k t.1 d.1 e.1 e.2.1 p.1 p.2.1 p.2.2 e.2.2.1 e.2.2.2
def spec_DrawLie.T9 : Bool × List (List Nat × List Nat) := (true, [([], []), ([], []), ([], []), ([], []), ([0, 0], [0]), ([1, 4, 0, 1, 4], [1]), ([2, 5, 0, 1, 2, 4, 5], [2]), ([3, 6, 0, 1, 2, 3, 4, 5, 6], [3])])
def spec_DrawLie.B9 : List Nat := [0, 0, 0, 0, 1, 19, 55, 127]
theorem spec_DrawLie.tab9 : rtab .any (opsOf Try.f5 9) = spec_DrawLie.T9 := by kernel_rfl
theorem spec_DrawLie.bits9 : waitsOk spec_DrawLie.T9.2 spec_DrawLie.B9 = true := by kernel_rfl
theorem spec_DrawLie.calls (k : Nat) (A9 : Option Addr) (c9 : Nat) (s9 : List Int) (r1 : List S45) (r2 r3 : ByteArray) (r4 r5 : Int) (r6 : List S52) (w : World) (aK : Kd.C (Kd.int .u8) w A9 s9.length s9) (aO : s9.length ≤ c9) (h : spec_DrawLie.f k s9 = some (r1, r2, r3, r4, r5, r6)) :
 Calls Try.prog 5 #[.slice A9 s9.length c9] w (LieEnd w r1 r2 r3 r4 r5 r6) := by
 have bE := Try.underlying27
 have bD := Try.underlying45
 have bC := Try.underlying52
 have aT := Aside0.mk aK
 have aU := Aside0.mk aO
 clear aK aO
 unfold spec_DrawLie.f at h
 obtain ⟨⟨s0, q0, y0⟩, A1, H⟩ := bo_ h
 clear h
 try dsimp only at H
 obtain ⟨⟨l, q1, y1⟩, A2, H⟩ := bo_ H
 try dsimp only at H
 obtain ⟨⟨lo, hi, q2, y2⟩, A3, H⟩ := bo_ H
 try dsimp only at H
 obtain ⟨⟨n, fr, its⟩, A4, H⟩ := bo_ H
 try dsimp only at H
 unfold spec_DrawLie.d at H
 obtain ⟨⟨o1, q3, y3⟩, A5, H⟩ := bo_ H
 try dsimp only at H
 have HC := Aside0.mk H
 clear H
 have HU := q_ (Below.refl w.heap.size w)
 go_enter Try.func5, Try.ntmps5
 go_upto_if 25 with (first
  | ((with_reducible refine gate_dst (N := 5) rfl ?_); refine box_event rfl (N := 5) rfl (cs := #[.int .i64 0, .int .i64 0, .slice none 0 0]) (t := 27) hr_ ?_; intro gr hgr w1 aN aQ; have HR : Aside0 (Bx w1 gr _ _ _) := ⟨aN⟩; have GR : Aside0 (w.heap.size ≤ gr) := ⟨by rw [hgr]; exact Nat.le_refl _⟩; replace HU := q_ (below_step HU.out aQ); clear aN hgr aQ)
  | ((with_reducible refine gate_callee (f := 14) rfl ?_); refine gl_ (some 12) Try.func14 #[.slice A9 s9.length c9] rfl al_ ?_; (with_reducible refine (spec_l1New.calls k _ _ s9 s0 q0 y0 w _ ?side1 ?side2 ?side3 A1.out).mono ?_); (case side1 => exact HU.out); (case side2 => exact aT.out); (case side3 => exact aU.out); rintro e w2 ⟨g, rfl, hi_, hb, aI⟩; refine ⟨_, rfl, ?_⟩; have HX : Aside0 (La w g gr s0 q0 y0 w2) := ⟨⟨hi_, hb, HR.out.below aI, GR.out, IsS61.ne_blk hi_ (HR.out.below aI) (by decide)⟩⟩; clear hi_ hb aI HR HU)
  | ((with_reducible refine gate_callee (f := 15) rfl ?_); refine gl_ (some 14) Try.func15 #[.pointer (some ⟨g, 0, none⟩)] rfl al_ ?_; (with_reducible refine (spec_l3Draw.calls k g s0 q0 y0 l q1 y1 w _ ?side1 ?side2 A2.out).mono ?_); (case side1 => exact HX.out.i); (case side2 => exact HX.out.b); rintro e w3 ⟨v0, rfl, ho, hi_, hb, hk⟩; refine ⟨_, rfl, ?_⟩; have HP : Aside0 (Lp w g gr s0 v0 l q1 y1 w3) := ⟨(HX.out.state hi_ hb hk).lp HX.out.b.size ho⟩; clear hi_ hb hk ho HX; obtain ⟨Al, cl, el⟩ := Kd.R_slice HP.out.d; subst el)
  | ((with_reducible refine gate_callee (f := 16) rfl ?_); refine gl_ (some 17) Try.func16 #[.pointer (some ⟨g, 0, none⟩)] rfl al_ ?_; (with_reducible refine (spec_l3Ends.calls g s0 q1 y1 lo hi q2 y2 w _ ?side1 ?side2 A3.out).mono ?_); (case side1 => exact HP.out.a.i); (case side2 => exact HP.out.a.b); rintro e w4 ⟨rfl, hi_, hb, hk⟩; refine ⟨_, rfl, ?_⟩; replace HP := q_ (HP.out.state hi_ hb hk); clear hi_ hb hk)
  | ((with_reducible refine gate_callee (f := 17) rfl ?_); refine gl_ (some 23) Try.func17 #[.slice Al l.length cl, .string lo, .string hi] rfl al_ ?_; (with_reducible refine (spec_ProveBetween.calls k Al cl l lo hi n fr its _ ?side1 ?side2 A4.out).mono ?_); (case side1 => exact kc_ (Kd.R_reads' HP.out.d).2.2); (case side2 => exact (Kd.R_reads' HP.out.d).2.1); rintro e w5 ⟨v1, rfl, ho, hb⟩; refine ⟨_, rfl, ?_⟩; have GB := q_ (And.intro HP.out.a.b.size (And.intro HP.out.a.i.lt (And.intro (blk_lt HP.out.a.r) (Kd.R_lt HP.out.d)))); replace HP := q_ (HP.out.below hb); have aS := q_ hb.size; have HS := q_ (Kd.S_mono (Kd.S_bound ho) (fun _ hk => hk.2.1)); clear ho hb; obtain ⟨As, cs, es⟩ := Kd.S_slice HS.out; subst es; generalize w4.heap.size = B at GB HS aS)
  | ((with_reducible refine gate_dst (N := 10) rfl ?_); refine box_event rfl (N := 10) rfl (cs := #[.int .i64 0, .int .i64 0, .slice none 0 0]) (t := 27) hr_ ?_; intro gf hgf w6 aM aB; have HF : Aside0 (Bx w6 gf _ _ _) := ⟨aM⟩; have HA := q_ (HP.out.a.below aB); have HD : Aside0 (Kd.R k45 45 w6 w.heap.size (fun k => (k ≠ g ∧ k ≠ gr) ∧ k ≠ gf) (.slice Al l.length cl) l) := ⟨Kd.R_below (Kd.R_elderB HP.out.d gf (Nat.le_of_eq hgf.symm)) aB⟩; have HT : Aside0 (Kd.F k52 w6 (fun k => B ≤ k ∧ k ≠ gf) As its.length its) := ⟨Kd.F_below (Kd.F_elderB (Kd.S_F HS.out) gf (Nat.le_of_eq hgf.symm)) aB⟩; have HL := q_ (Kd.S_reads' HS.out).2.1; have GF : Aside0 (B ≤ gf) := ⟨by rw [hgf]; exact aS.out⟩; clear aM hgf aB HS HP; obtain ⟨aY, aX, aW, bB, bA, aZ⟩ := HF.out.cells)
  | ((with_reducible refine gate_callee (f := 18) rfl ?_); have HX := q_ (ld_put (n := n) (fr := fr) HA.out HD.out HF.out HT.out HL.out GB.out.2.1 GB.out.2.2.1 GB.out.1 GF.out GB.out.2.2.2); refine gl_ (some 25) Try.func18 #[.pointer (some ⟨g, 0, none⟩), .int .i64 2] rfl al_ ?_; (with_reducible refine (spec_l1Once.calls g s0 q2 y2 2 o1 q3 y3 w _ ?side1 ?side2 A5.out).mono ?_); (case side1 => exact HX.out.a.i); (case side2 => exact HX.out.a.b); rintro e w8 ⟨rfl, hi_, hb, hk⟩; refine ⟨_, rfl, ?_⟩; replace HX := q_ (HX.out.state hi_ hb hk); clear hi_ hb hk))
 clear HF HA HD HT HL
 (try simp only [Act.put, sa_, sz_, ss_])
 go_cut [] (fun wc => ∃ (n' fr' : Int) (its' : List S52) (A' : Option Addr) (c' : Nat) (q y : Int), Aside0 (spec_DrawLie.e s0 l lo hi n' fr' its' q y = some (r1, r2, r3, r4, r5, r6)) ∧ Aside0 (Ld w g gr gf B s0 (.slice Al l.length cl) l n' fr' its' A' c' q y wc))
 case first =>
  have H := HC.out
  clear HC
  by_cases c6 : o1 = true
  rotate_left
  ·
   rw [if_neg c6] at H
   have c7 := Bool.eq_false_iff.mpr c6
   clear c6
   subst c7
   have H' := Aside0.mk H
   clear H
   go_wp2
   go_meet
   case rel => exact ⟨n, fr, its, As, cs, q3, y3, H', HX⟩
  subst c6
  rw [if_pos rfl] at H
  obtain ⟨⟨n2, aR, aA, q4, y4⟩, A6, H⟩ := bo_ H
  try dsimp only at H
  have H' := Aside0.mk H
  clear H
  obtain ⟨aE, aD, aC, aH, aG, aF⟩ := HX.out.f.cells
  go_wp2_with (first
   | ((with_reducible refine gate_callee (f := 19) rfl ?_); refine gl_ (some 28) Try.func19 #[.pointer (some ⟨g, 0, none⟩), .agg #[.int .i64 n, .int .i64 fr, .slice As its.length cs]] rfl al_ ?_; (with_reducible refine (spec_l5Bend.calls k g s0 q3 y3 n fr As cs its n2 aR aA q4 y4 w _ ?side1 ?side2 ?side3 ?side4 A6.out).mono ?_); (case side1 => exact HX.out.a.i); (case side2 => exact HX.out.a.b); (case side3 => exact Kd.F_now HX.out.s); (case side4 => exact HX.out.c); rintro e w9 ⟨A2, c2, rfl, aP, hF, hi_, hb, hk⟩; refine ⟨_, rfl, ?_⟩; have aV := q_ aP; have GZ := q_ (blk_lt HX.out.f); have HT := q_ (Kd.F_mono (ok' := fun k => B ≤ k ∧ k ≠ gf) hF (fun k hk => by have := GZ.out; have := HX.out.h; omega)); replace HX := q_ (HX.out.state hi_ hb hk); clear hi_ hb hk hF aP aE aD aC aH aG aF; obtain ⟨aE, aD, aC, aH, aG, aF⟩ := HX.out.f.cells))
  go_meet
  case rel => exact ⟨n2, aR, aA, A2, c2, q4, y4, H', ⟨ld_put HX.out.a HX.out.d HX.out.f HT.out aV.out HX.out.g HX.out.r HX.out.z HX.out.h HX.out.o⟩⟩
 case rest =>
  clear HC HX
  obtain ⟨n', fr', its', A', c', q5, y5, H0, HX⟩ := hcut
  have H := H0.out
  clear H0
  unfold spec_DrawLie.e at H
  obtain ⟨⟨o2, q6, y6⟩, A7, H⟩ := bo_ H
  try dsimp only at H
  have HC := Aside0.mk H
  clear H
  go_upto_if 30 with (first | ((with_reducible refine gate_callee (f := 18) rfl ?_); refine gl_ (some 30) Try.func18 #[.pointer (some ⟨g, 0, none⟩), .int .i64 4] rfl al_ ?_; (with_reducible refine (spec_l1Once.calls g s0 q5 y5 4 o2 q6 y6 w _ ?side1 ?side2 A7.out).mono ?_); (case side1 => exact HX.out.a.i); (case side2 => exact HX.out.a.b); rintro e wb ⟨rfl, hi_, hb, hk⟩; refine ⟨_, rfl, ?_⟩; replace HX := q_ (HX.out.state hi_ hb hk); clear hi_ hb hk))
  (try simp only [Act.put, sa_, sz_, ss_])
  go_cut [8, 9] (fun v8 v9 wc => ∃ (lo' hi' : ByteArray) (q y : Int), v8 = .string lo' ∧ v9 = .string hi' ∧ Aside0 ((some (l, lo', hi', n', fr', its') : Option _) = some (r1, r2, r3, r4, r5, r6)) ∧ Aside0 (Ld w g gr gf B s0 (.slice Al l.length cl) l n' fr' its' A' c' q y wc))
  case first =>
   have H := HC.out
   clear HC
   by_cases c6 : o2 = true
   rotate_left
   ·
    rw [if_neg c6] at H
    have c7 := Bool.eq_false_iff.mpr c6
    clear c6
    subst c7
    have H' := Aside0.mk H
    clear H
    go_wp2
    go_meet
    case rel => exact ⟨lo, hi, q6, y6, rfl, rfl, H', HX⟩
   subst c6
   rw [if_pos rfl] at H
   obtain ⟨⟨aJ, aL, q7, y7⟩, A8, H⟩ := bo_ H
   try dsimp only at H
   have H' := Aside0.mk H
   clear H
   go_wp2_with (first
    | ((with_reducible refine gate_callee (f := 16) rfl ?_); refine gl_ (some 33) Try.func16 #[.pointer (some ⟨g, 0, none⟩)] rfl al_ ?_; (with_reducible refine (spec_l3Ends.calls g s0 q6 y6 aJ aL q7 y7 w _ ?side1 ?side2 A8.out).mono ?_); (case side1 => exact HX.out.a.i); (case side2 => exact HX.out.a.b); rintro e wa ⟨rfl, hi_, hb, hk⟩; refine ⟨_, rfl, ?_⟩; replace HX := q_ (HX.out.state hi_ hb hk); clear hi_ hb hk))
   go_meet
   case rel => exact ⟨aJ, aL, q7, y7, rfl, rfl, H', HX⟩
  case rest =>
   clear HC HX
   obtain ⟨lo', hi', q8, y8, rfl, rfl, H0, HX⟩ := hcut
   have H := H0.out
   clear H0
   simp only [Option.some.injEq, Prod.mk.injEq] at H
   obtain ⟨rfl, rfl, rfl, rfl, rfl, rfl⟩ := H
   go_wp2
   replace HX := q_ (HX.out.below (below_drew (Below.refl _ _)))
   refine sr_ (fun w' => w'.cell? ⟨gf, 0, none⟩ = some (.int .i64 n') ∧ w'.cell? ⟨gf, 1, none⟩ = some (.int .i64 fr') ∧ w'.cell? ⟨gf, 2, none⟩ = some (.slice A' its'.length c')) [7] spec_DrawLie.tab9 spec_DrawLie.bits9 ⟨HX.out.f.cells.1, HX.out.f.cells.2.1, HX.out.f.cells.2.2.1⟩ (fun hD hT hW => ?_)
   generalize wc.drew = w7 at HX hD ⊢
   refine p_ 0 36 hT ?_; refine p_ 1 37 hT ?_; refine p_ 2 38 hT ?_; refine p_ 4 2 hT ?_; refine k_ 3 39 hT hW hD ?_; refine p_ 5 3 hT ?_; refine p_ 6 4 hT ?_
   refine last_ (i := 7) (N := none) (bq_ 8 0) rfl rfl (one_of hT.out (by kernel_rfl)) (by decide) (fun K hK => ?_)
   obtain ⟨aE, aD, aC, aH, aG, aF⟩ := HX.out.a.r.cells
   refine skip_ (w1 := ?_) (by rfl) rfl ?_ ?_
   rotate_left
   · go_simp
     rfl
   refine hK.out _ _ ?_
   clear hK K
   refine done_ (done_of hT.out (by kernel_rfl)) ?_
   try go_wp2
   refine bodyPost_ret (results_list (rs := [.tmp 2, .tmp 3, .tmp 4, .cell 5 27]) rfl (by simp) (.tmp (.tmp (.tmp (.cell gr 27 #[.int .i64 n', .int .i64 fr', .slice A' its'.length c'] (0, 0) _ rfl (Ld.box HX.out) Try.underlying27 rfl (by kernel_rfl) .nil))))) rfl ?_
   exact Ld.out HX.out lo' hi'
def slices_Clone_byte_byte.f (l0 : List Int) : Option (List Int) := if l0.length < 140737488355328 then some l0 else none
theorem slices_Clone_byte_byte.calls (A0 : Option Addr) (c0 : Nat) (l0 : List Int) (r : List Int) (w : World) (aC : Kd.C (Kd.int .u8) w A0 l0.length l0) (aG : l0.length ≤ c0) (h : slices_Clone_byte_byte.f l0 = some r) :
 Calls Try.prog 57 #[.slice A0 l0.length c0] w fun e w' => ∃ v0_ : Value, e = .returned (v0_) ∧ Kd.R (Kd.int .u8) 5 w' w.heap.size (fun _ => True) v0_ r ∧ Below w.heap.size w w' := by
 unfold slices_Clone_byte_byte.f at h
 by_cases c3 : l0.length < 140737488355328
 ·
  rw [if_pos c3] at h
  obtain rfl := Option.some.inj h
  clear h
  cases A0 with
  | none =>
   have hl : l0.length = 0 := by
    rcases Nat.eq_zero_or_pos l0.length with h0 | h0
    · exact h0
    · obtain ⟨ad, e, _⟩ := aC.2.2 h0
      cases e
   obtain rfl : l0 = [] := List.eq_nil_of_length_eq_zero hl
   have hq : ∀ W : World, Sem.run Try.prog (binOp .eql 22 (.slice none 0 c0) (.slice none 0 0)) W = .ok (.bool true) W := fun W => Lib.run_eql_slice_nil W 22 5 none 0 c0 0 0 Try.underlying22
   go_enter Try.func57, Try.ntmps57
   go_wp2
   go_ret
   exact ⟨_, rfl, Kd.R_nil _ _ _ _ _, Below.refl _ _⟩
  | some ad =>
   have aH := Aside0.mk aC
   have LM := Aside0.mk c3
   clear aC aG c3
   have HB := q_ (Below.refl w.heap.size w)
   have hq : ∀ W : World, Sem.run Try.prog (binOp .eql 22 (.slice (some ad) l0.length c0) (.slice none 0 0)) W = .ok (.bool false) W := fun W => Lib.run_eql_slice_nil W 22 5 (some ad) _ c0 0 0 Try.underlying22
   go_enter Try.func57, Try.ntmps57
   go_wp2_with (first | ((with_reducible refine gate_dst (N := 5) rfl ?_); refine Kd.R_lit (Kd.int .u8) _ 5 ?hg (N := 5) ?hd (xs := ([] : List Int)) (inner := []) (ok := fun _ => True) (okp := fun _ => True) ?hr ?hp (fun _ hk => hk) trivial (Below.refl _ _) (Nat.le_refl _) (by simp) ?_; (case hd => rfl); (case hg => rfl); (case hr => first | (go_simp; done) | (go_simp; rfl)); (case hp => exact (Reps.none _ _)); intro aA w5 aD hb hg_ hnew_; clear hg_ hnew_; have HO := q_ (Kd.R_lower aD (below_size HB.out)); replace HB := q_ (below_step HB.out hb); clear hb aD) | ((with_reducible refine gate_builtin (b := .append) (xs := #[.tmp 5, .tmp 6]) rfl ?_); at_builtin; refine Kd.R_append_rows (Kd.int .u8) (w0 := w) w.heap.size rfl (.tmp 5) (.tmp 6) 22 5 (.int .u8 0) 1 rfl Try.underlying22 info5 rfl (by decide) (by omega) aA ([] : List Int) l0 _ _ _ (fun _ => True) (fun _ => False) rfl rfl ?aO ?aR (fun _ _ h => h) (fun _ h => h.elim) ?aF ?aB ?aS ?aL ?_; (case aR => exact (Kd.C_below aH.out HB.out)); (case aB => exact HB.out); (case aF => exact (fun _ _ => trivial)); (case aO => exact HO.out); (case aS => exact (below_size HB.out)); (case aL => have := LM.out; simp; omega); intro aE w7 ho hb hg hat; replace HB := q_ (hb); replace HO := q_ (ho); clear ho hb hg hat))
   go_ret
   exact ⟨_, rfl, by have h_ := HO.out; rwa [List.nil_append] at h_, HB.out⟩
 · rw [if_neg c3] at h
   exact absurd h (by simp)
section
mutual
def impl_Padded.l0 : Nat → List Int → List Int → Option (List Int)
 | 0, _, _ => none
 | k + 1, x0, x3 => if (Int.tmod (wrap64 ((x3.length : Int) + 8)) 64) = 0 then (impl_Padded.l1 k x3 (wrap64 (8 * (x0.length : Int))) 7) else (if x3.length < 140737488355328 then (impl_Padded.l0 k x0 (x3 ++ [0])) else (none))
def impl_Padded.l1 : Nat → List Int → Int → Int → Option (List Int)
 | 0, _, _, _ => none
 | k + 1, x3, x4, x5 => if x5 ≥ 0 then (if 0 ≤ (IntKind.u64.wrap (wrap64 (8 * x5))) then (if x3.length < 140737488355328 then (impl_Padded.l1 k (x3 ++ [(shr .i64 x4 (IntKind.u64.wrap (wrap64 (8 * x5)))) % 256]) x4 (wrap64 (x5 - 1))) else (none)) else (none)) else (some x3)
end
def impl_Padded.f (k : Nat) (l0 : List Int) : Option (List Int) := (slices_Clone_byte_byte.f l0).bind fun aA => (if aA.length < 140737488355328 then (impl_Padded.l0 k l0 (aA ++ [128])) else (none))
theorem impl_Padded.calls (k : Nat) (A0 : Option Addr) (c0 : Nat) (l0 : List Int) (r : List Int) (w : World) (bS : Kd.C (Kd.int .u8) w A0 l0.length l0) (bU : l0.length ≤ c0) (h : impl_Padded.f k l0 = some r) :
 Calls Try.prog 65 #[.slice A0 l0.length c0] w fun e w' => ∃ v0_ : Value, e = .returned (v0_) ∧ Kd.R (Kd.int .u8) 5 w' w.heap.size (fun _ => True) v0_ r ∧ Below w.heap.size w w' := by
 have cC := Aside0.mk bS
 have cD := Aside0.mk bU
 clear bS bU
 have HB := q_ (Below.refl w.heap.size w)
 have H := h
 clear h
 unfold impl_Padded.f at H
 obtain ⟨aR, A2, H⟩ := bo_ H
 obtain ⟨bQ, H⟩ := ia_ H
 obtain ⟨bG, aK⟩ : ∃ y_ : List Int, y_ = (aR ++ [128]) := ⟨_, rfl⟩
 rw [← aK] at H
 have aX := Aside0.mk aK
 clear aK
 have H' := Aside0.mk H
 clear H
 go_enter Try.func65, Try.ntmps65
 go_wp2_with (first | ((with_reducible refine gate_callee (f := 57) rfl ?_); refine gl_ (some 7) Try.func57 #[.slice A0 l0.length c0] rfl al_ ?_; (with_reducible refine (slices_Clone_byte_byte.calls _ _ l0 aR _ ?side1 ?side2 A2.out).mono ?_); (case side1 => exact kc_ cC.out); (case side2 => exact cD.out); rintro e w4 ⟨bH, rfl, bT, hb⟩; refine ⟨_, rfl, ?_⟩; have aQ := q_ (Kd.R_lower bT (below_size (be_ HB.out))); replace HB := q_ (below_step (be_ HB.out) hb); (try clear hb); (try clear bT)) | ((with_reducible refine gate_builtin (b := .append) (xs := #[.tmp 7, .tmp 8]) rfl ?_); at_builtin; refine Kd.R_append (Kd.int .u8) (w0 := w) w.heap.size rfl (.tmp 7) (.tmp 8) 22 5 (.int .u8 0) 1 rfl Try.underlying22 info5 rfl (by decide) (by omega) bH aR 128 [.int .u8 128] (fun _ => True) (fun _ => False) rfl rfl ?aP (fun _ hk => hk.elim) ?aF ?aO ?aB ?aS ?aL ?_; (case aP => exact rfl); (case aB => exact (be_ HB.out)); (case aF => exact (fun _ _ => trivial)); (case aO => exact (kr_ aQ.out)); (case aS => exact (below_size (be_ HB.out))); (case aL => have := bQ.out; omega); intro cA w5 ho hb hg hat; rw [← aX.out] at ho; have aN := q_ (hb); have aM := q_ (ho); clear HB; clear aQ; have HB := aN; have bC := aM; clear aN aM; clear ho hb hg hat))
 go_loopg [3] k (fun kq v3 w' => ∃ (aD : List Int), Aside0 (impl_Padded.l0 kq l0 aD = some r) ∧ Aside0 (kq ≤ k) ∧ Aside0 (Kd.R (Kd.int .u8) 5 w' w.heap.size (fun _ => True) v3 aD) ∧ Aside0 (Below w.heap.size w w'))
 case atStart => exact ⟨(bG), H', ⟨Nat.le_refl _⟩, ⟨kr_ bC.out⟩, ⟨be_ HB.out⟩⟩
 case round =>
  clear H'
  obtain ⟨aD, HA, bD, aA, HB⟩ := hrel
  cases gk with
  | zero => exact absurd HA.out (by simp [impl_Padded.l0])
  | succ k1 =>
   have H := HA.out
   clear HA
   simp only [impl_Padded.l0] at H
   by_cases c6 : (Int.tmod (wrap64 ((aD.length : Int) + 8)) 64) = 0
   ·
    rw [if_pos c6] at H
    have bO := beq_iff_eq.mpr c6
    have bN := bne_eq_false_iff_eq.mpr c6
    clear c6
    have H' := Aside0.mk H
    clear H
    obtain ⟨cG, cF, cB⟩ := Kd.R_slice aA.out
    subst cB
    go_wp2
    go_loopg [3, 5] k1 (fun kq v3 v5 w' => ∃ (aG : List Int) (aC : Int), v5 = .int .i64 aC ∧ Aside0 (impl_Padded.l1 kq aG (wrap64 (8 * (l0.length : Int))) aC = some r) ∧ Aside0 (kq ≤ k1) ∧ Aside0 (Kd.R (Kd.int .u8) 5 w' w.heap.size (fun _ => True) v3 aG) ∧ Aside0 (Below w.heap.size w w'))
    case atStart => exact ⟨(aD), (7), rs_, H', ⟨Nat.le_refl _⟩, ⟨kr_ aA.out⟩, ⟨be_ HB.out⟩⟩
    case round =>
     clear H'
     obtain ⟨aG, aC, rfl, HA, bX, aA, HB⟩ := hrel
     cases gk with
     | zero => exact absurd HA.out (by simp [impl_Padded.l1])
     | succ k2 =>
      have H := HA.out
      clear HA
      simp only [impl_Padded.l1] at H
      by_cases c8 : aC ≥ 0
      rotate_left
      · rw [if_neg c8] at H
        have bM : decide (0 ≤ aC) = false := decide_eq_false c8
        clear c8
        obtain rfl := Option.some.inj H
        go_wp2
        go_ret
        exact ⟨_, rf_, kr_ aA.out, be_ HB.out⟩
      rw [if_pos c8] at H
      have bM : decide (0 ≤ aC) = true := decide_eq_true c8
      clear c8
      obtain ⟨aT, aU⟩ : ∃ j_ : Int, (IntKind.u64.wrap (wrap64 (8 * aC))) = j_ := ⟨_, rfl⟩
      first | rw [aU] at H | simp only [aU] at H
      obtain ⟨bP, H⟩ := ip_ H
      have bW := eq_true bP
      have bV : decide (0 ≤ (aT)) = true := decide_eq_true bP
      clear bP
      obtain ⟨aH, aE⟩ : ∃ j_ : Int, (shr .i64 (wrap64 (8 * (l0.length : Int))) (aT)) = j_ := ⟨_, rfl⟩
      first | rw [aE] at H | simp only [aE] at H
      have bJ : ((wrap64 (8 * (l0.length : Int))) / 2 ^ min (aT).toNat 64) = aH := aE
      have bI : (aT) ≤ 64 → ((wrap64 (8 * (l0.length : Int))) / 2 ^ (aT).toNat) = aH := shr_small aE
      obtain ⟨aZ, H⟩ := ia_ H
      obtain ⟨bE, aI⟩ : ∃ y_ : List Int, y_ = (aG ++ [(aH) % 256]) := ⟨_, rfl⟩
      rw [← aI] at H
      have aV := Aside0.mk aI
      clear aI
      have H' := Aside0.mk H
      clear H
      go_wp2_with (first | ((with_reducible refine gate_builtin (b := .append) (xs := #[.tmp 25, .tmp 32]) rfl ?_); at_builtin; refine Kd.R_append (Kd.int .u8) (w0 := w) w.heap.size rfl (.tmp 25) (.tmp 32) 22 5 (.int .u8 0) 1 rfl Try.underlying22 info5 rfl (by decide) (by omega) u3 aG ((aH) % 256) [.int .u8 ((aH) % 256)] (fun _ => True) (fun _ => False) rfl rfl ?aP (fun _ hk => hk.elim) ?aF ?aO ?aB ?aS ?aL ?_; (case aP => exact rfl); (case aB => exact (be_ HB.out)); (case aF => exact (fun _ _ => trivial)); (case aO => exact (kr_ aA.out)); (case aS => exact (below_size (be_ HB.out))); (case aL => have := aZ.out; omega); intro bY cE ho hb hg hat; rw [← aV.out] at ho; have aN := q_ (hb); have aM := q_ (ho); clear HB; clear aA; have HB := aN; have bA := aM; clear aN aM; clear ho hb hg hat))
      go_roundg k2
      case measure => have := bD.out; have := bX.out; omega
      case rel => exact ⟨(bE), (wrap64 (aC - 1)), rs_, H', ⟨by have := bD.out; have := bX.out; omega⟩, ⟨kr_ bA.out⟩, ⟨be_ HB.out⟩⟩
   ·
    rw [if_neg c6] at H
    have bO := beq_eq_false_iff_ne.mpr c6
    have bN := bne_iff_ne.mpr c6
    obtain ⟨aY, H⟩ := ia_ H
    obtain ⟨bF, aJ⟩ : ∃ y_ : List Int, y_ = (aD ++ [0]) := ⟨_, rfl⟩
    rw [← aJ] at H
    have aW := Aside0.mk aJ
    clear aJ
    have H' := Aside0.mk H
    clear H
    obtain ⟨bR, bL, bK⟩ := Kd.R_slice aA.out
    subst bK
    go_wp2_with (first | ((with_reducible refine gate_builtin (b := .append) (xs := #[.tmp 15, .tmp 16]) rfl ?_); at_builtin; refine Kd.R_append (Kd.int .u8) (w0 := w) w.heap.size rfl (.tmp 15) (.tmp 16) 22 5 (.int .u8 0) 1 rfl Try.underlying22 info5 rfl (by decide) (by omega) (.slice bR aD.length bL) aD 0 [.int .u8 0] (fun _ => True) (fun _ => False) rfl rfl ?aP (fun _ hk => hk.elim) ?aF ?aO ?aB ?aS ?aL ?_; (case aP => exact rfl); (case aB => exact (be_ HB.out)); (case aF => exact (fun _ _ => trivial)); (case aO => exact (kr_ aA.out)); (case aS => exact (below_size (be_ HB.out))); (case aL => have := aY.out; omega); intro bZ w16 ho hb hg hat; rw [← aW.out] at ho; have aN := q_ (hb); have aM := q_ (ho); clear HB; clear aA; have HB := aN; have bB := aM; clear aN aM; clear ho hb hg hat))
    go_roundg k1
    case measure => have := bD.out; omega
    case rel => exact ⟨(bF), H', ⟨by have := bD.out; omega⟩, ⟨kr_ bB.out⟩, ⟨be_ HB.out⟩⟩
end
end Go.Proofs.Ytgmfhchhbidlnaa.P