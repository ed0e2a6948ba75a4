import Derived.Test.YtgmfhchhbidlnaaPx0
import Derived.Test.YtgmfhchhbidlnaaPx3
import Derived.Test.YtgmfhchhbidlnaaPx5
namespace Go.Proofs.Ytgmfhchhbidlnaa.P
open Go.RowKit Go.Proofs.YtgmfhchhbidlnaaW.PrintWords Go.Proofs.YtgmfhchhbidlnaaW.PrintLast Go.Proofs.YtgmfhchhbidlnaaW.PrintMore
attribute [local go_sem] max2_int min2_int max_two min_two max_three min_three max_four min_four
set_option linter.unusedVariables false
set_option maxHeartbeats 8000000
set_option maxRecDepth 100000
set_option linter.unusedSimpArgs false
mutual
def spec_Digest.l0 : Nat → List Int → List Int → List Int → Int → Option (ByteArray)
 | 0, _, _, _, _ => none
 | k + 1, x3, x4, x5, x6 => if x6 < (x3.length : Int) then (if 0 ≤ x6 then (if x6 ≤ (wrap64 (x6 + 64)) then (if (wrap64 (x6 + 64)) ≤ (x3.length : Int) then ((spec_l2Block.f k x4 ((x3.take ((wrap64 (x6 + 64)) : Int).toNat).drop (x6 : Int).toNat) x5).bind fun aB => (spec_Digest.l0 k x3 aB x5 (wrap64 (x6 + 64)))) else (none)) else (none)) else (none)) else (spec_Digest.l1 k x4 (([] : List Int)) 0)
def spec_Digest.l1 : Nat → List Int → List Int → Int → Option (ByteArray)
 | 0, _, _, _ => none
 | k + 1, x4, x7, x8 => if x8 < 8 then (if 0 ≤ x8 then (if x8 < (x4.length : Int) then ((some (([((rd x4 x8) / 16777216) % 256, ((rd x4 x8) / 65536) % 256, ((rd x4 x8) / 256) % 256, (rd x4 x8) % 256] : List Int) : List Int)).bind fun aA => (if x7.length + aA.length < 140737488355328 then (spec_Digest.l1 k x4 (x7 ++ aA) (wrap64 (x8 + 1))) else (none))) else (none)) else (none)) else (some (strOfNums x7))
end
def spec_Digest.f (k : Nat) (l0 : List Int) : Option (ByteArray) := (spec_Padded.f k l0).bind fun aB => ((spec_l2K.f).bind fun aA => (spec_Digest.l0 k aB (([1779033703, 3144134277, 1013904242, 2773480762, 1359893119, 2600822924, 528734635, 1541459225] : List Int)) aA 0))
def spec_Digest.T12 : Bool × List (List Nat × List Nat) := (true, [([], []), ([], []), ([], []), ([1, 2], [1, 2]), ([3], [3]), ([4], [4]), ([5], [5]), ([], []), ([], []), ([7, 8], [7, 8]), ([9], [9]), ([10], [10]), ([11], [11]), ([], []), ([], []), ([13, 14], [13, 14]), ([15], [15]), ([16], [16]), ([17], [17]), ([], []), ([], []), ([19, 20], [19, 20]), ([21], [21]), ([22], [22]), ([6, 12, 18, 23], [6, 12, 18, 23]), ([0, 24], [0, 24]), ([25, 25, 0, 1, 2, 3, 4, 5, 6, 7, 8, 9, 10, 11, 12, 13, 14, 15, 16, 17, 18, 19, 20, 21, 22, 23, 24, 25], [0, 25])])
def spec_Digest.B12 : List Nat := [0, 0, 0, 6, 14, 30, 62, 0, 0, 384, 896, 1920, 3968, 0, 0, 24576, 57344, 122880, 253952, 0, 0, 1572864, 3670016, 7864320, 16777214, 33554431, 67108863]
theorem spec_Digest.tab12 : rtab .any (opsOf Try.f51 12) = spec_Digest.T12 := by kernel_rfl
theorem spec_Digest.bits12 : waitsOk spec_Digest.T12.2 spec_Digest.B12 = true := by kernel_rfl
theorem spec_Digest.calls (k : Nat) (A0 : Option Addr) (c0 : Nat) (l0 : List Int) (r : ByteArray) (w : World) (eG : Kd.C (Kd.int .u8) w A0 l0.length l0) (eI : l0.length ≤ c0) (h : spec_Digest.f k l0 = some r) :
 Calls Try.prog 51 #[.slice A0 l0.length c0] w fun e w' => e = .returned (.string r) ∧ Below w.heap.size w w' := by
 have fI := Aside0.mk eG
 have fJ := Aside0.mk eI
 clear eG eI
 have HB := q_ (Below.refl w.heap.size w)
 have H := h
 clear h
 unfold spec_Digest.f at H
 obtain ⟨aG, A2, H⟩ := bo_ H
 obtain ⟨dB, bG⟩ : ∃ y_ : List Int, y_ = (([1779033703, 3144134277, 1013904242, 2773480762, 1359893119, 2600822924, 528734635, 1541459225] : List Int)) := ⟨_, rfl⟩
 rw [← bG] at H
 have bS := Aside0.mk bG
 clear bG
 obtain ⟨bC, A3, H⟩ := bo_ H
 have H' := Aside0.mk H
 clear H
 go_enter Try.func51, Try.ntmps51
 go_wp2_with (first | ((with_reducible refine gate_callee (f := 70) rfl ?_); refine gl_ (some 10) Try.func70 #[.slice A0 l0.length c0] rfl al_ ?_; (with_reducible refine (spec_Padded.calls k _ _ l0 aG _ ?side1 ?side2 A2.out).mono ?_); (case side1 => exact kc_ fI.out); (case side2 => exact fJ.out); rintro e w4 ⟨dC, rfl, bI, hb⟩; refine ⟨_, rfl, ?_⟩; have aQ := q_ (Kd.R_lower bI (below_size (be_ HB.out))); replace HB := q_ (below_step (be_ HB.out) hb); (try clear hb); (try clear bI)) | ((with_reducible refine gate_dst (N := 11) rfl ?_); refine Kd.R_lit (Kd.int .i64) _ 3 ?hg (N := 11) ?hd (xs := ([1779033703, 3144134277, 1013904242, 2773480762, 1359893119, 2600822924, 528734635, 1541459225] : List Int)) (inner := [.int .i64 1779033703, .int .i64 3144134277, .int .i64 1013904242, .int .i64 2773480762, .int .i64 1359893119, .int .i64 2600822924, .int .i64 528734635, .int .i64 1541459225]) (ok := fun _ => True) (okp := fun _ => True) ?hr ?hp (fun _ hk => hk) trivial (Below.refl _ _) (Nat.le_refl _) (by simp) ?_; (case hd => rfl); (case hg => rfl); (case hr => first | (go_simp; done) | (go_simp; rfl)); (case hp => exact (Reps.one (show Kd.M (Kd.int .i64) _ _ _ 1779033703 [.int .i64 1779033703] from rfl) (Reps.one (show Kd.M (Kd.int .i64) _ _ _ 3144134277 [.int .i64 3144134277] from rfl) (Reps.one (show Kd.M (Kd.int .i64) _ _ _ 1013904242 [.int .i64 1013904242] from rfl) (Reps.one (show Kd.M (Kd.int .i64) _ _ _ 2773480762 [.int .i64 2773480762] from rfl) (Reps.one (show Kd.M (Kd.int .i64) _ _ _ 1359893119 [.int .i64 1359893119] from rfl) (Reps.one (show Kd.M (Kd.int .i64) _ _ _ 2600822924 [.int .i64 2600822924] from rfl) (Reps.one (show Kd.M (Kd.int .i64) _ _ _ 528734635 [.int .i64 528734635] from rfl) (Reps.one (show Kd.M (Kd.int .i64) _ _ _ 1541459225 [.int .i64 1541459225] from rfl) (Reps.none _ _)))))))))); intro eY w5 cH hb hg_ hnew_; clear hg_ hnew_; (first | rw [← bS.out] at cH | (simp only [Int.reduceToNat] at cH; rw [← bS.out] at cH)); replace aQ := q_ (Kd.R_below (kr_ aQ.out) hb); have aY := q_ (Kd.R_lower cH (below_size (be_ HB.out))); replace HB := q_ (below_step (be_ HB.out) hb); clear hb cH) | ((with_reducible refine gate_callee (f := 71) rfl ?_); refine gl_ (some 12) Try.func71 #[] rfl al_ ?_; (with_reducible refine (spec_l2K.calls  bC _ A3.out).mono ?_); rintro e w7 ⟨cF, rfl, bI, hb⟩; refine ⟨_, rfl, ?_⟩; replace aQ := q_ (Kd.R_below (kr_ aQ.out) hb); have cW := q_ (Kd.R_lower (Kd.R_new' bI (Kd.R_lt (kr_ aY.out))) (below_size (be_ HB.out))); replace aY := q_ (Kd.R_elder' (kr_ aY.out) (Kd.R_base bI) hb); replace HB := q_ (below_step (be_ HB.out) hb); (try clear hb); (try clear bI)))
 go_loopg [4, 6] k (fun kq v4 v6 w' => ∃ (aC : List Int) (aD : Int), v6 = .int .i64 aD ∧ Aside0 (spec_Digest.l0 kq aG aC bC aD = some r) ∧ Aside0 (kq ≤ k) ∧ Aside0 (Kd.R (Kd.int .u8) 5 w' w.heap.size (fun _ => True) dC aG) ∧ Aside0 (Kd.R (Kd.int .i64) 3 w' w.heap.size (fun k_ => some k_ ≠ (cF : Value).ownBlock) v4 aC) ∧ Aside0 (Kd.R (Kd.int .i64) 3 w' w.heap.size (fun k_ => some k_ ≠ (v4 : Value).ownBlock) cF bC) ∧ Aside0 (Below w.heap.size w w'))
 case atStart => exact ⟨(dB), (0), rs_, H', ⟨Nat.le_refl _⟩, ⟨kr_ aQ.out⟩, ⟨by (with_reducible repeat (first | apply Kd.R_alloc | apply Kd.R_drewN | apply Kd.R_drew)); exact Kd.R_mono aY.out (fun _ hk => hk.2)⟩, ⟨by (with_reducible repeat (first | apply Kd.R_alloc | apply Kd.R_drewN | apply Kd.R_drew)); exact Kd.R_mono cW.out (fun _ hk => hk.2)⟩, ⟨be_ HB.out⟩⟩
 case round =>
  clear H'
  obtain ⟨aC, aD, rfl, HA, cY, aK, aE, aN, HB⟩ := hrel
  cases gk with
  | zero => exact absurd HA.out (by simp [spec_Digest.l0])
  | succ k1 =>
   have H := HA.out
   clear HA
   simp only [spec_Digest.l0] at H
   by_cases c8 : aD < (aG.length : Int)
   ·
    rw [if_pos c8] at H
    have dU := decide_eq_true c8
    clear c8
    obtain ⟨c9, H⟩ := ip_ H
    have fD := eq_true c9
    have fC : decide (0 ≤ aD) = true := decide_eq_true c9
    clear c9
    obtain ⟨eR, H⟩ := ip_ H
    have eQ := eq_true eR
    have eP : decide (aD ≤ (wrap64 (aD + 64))) = true := decide_eq_true eR
    obtain ⟨eO, H⟩ := ip_ H
    have eN := eq_true eO
    have eM : decide ((wrap64 (aD + 64)) ≤ (aG.length : Int)) = true := decide_eq_true eO
    obtain ⟨aT, bF⟩ : ∃ y_ : List Int, y_ = ((aG.take ((wrap64 (aD + 64)) : Int).toNat).drop (aD : Int).toNat) := ⟨_, rfl⟩
    rw [← bF] at H
    have bR := Aside0.mk bF
    clear bF
    obtain ⟨cG, fM, H⟩ := bo_ H
    have H' := Aside0.mk H
    clear H
    obtain ⟨bM, bJ, dM⟩ := Kd.R_slice aK.out
    subst dM
    have dE : ((wrap64 (aD + 64)) : Int) ≤ ((aG.length : Int) : Int) := od_
    obtain ⟨eZ, bO, _, bN, _⟩ := info_parts info5
    have aH : aG.length ≤ bJ := (Kd.R_reads' aK.out).2.1
    have cI : Kd.C (Kd.int .u8) _ bM aG.length aG := (Kd.R_reads' aK.out).2.2
    have dD : (aD : Int) ≤ ((wrap64 (aD + 64)) : Int) := od_
    have dF : (0 : Int) ≤ (aD : Int) := od_
    have cC := cut_mid (P := Try.prog) 22 5 .i64 .i64 Try.underlying22 bO 1 bN bM aG.length bJ aD (wrap64 (aD + 64)) dF dD dE aH
    have bH := Kd.C_mid (lo := (aD : Int).toNat) (hi := ((wrap64 (aD + 64)) : Int).toNat) (c := bJ) cI (by omega) (by omega) aH
    obtain ⟨eT, bL⟩ : ∃ A1, A1 = (if bJ = (aD : Int).toNat then bM else (bM : Option Addr).map (·.add ((aD : Int).toNat * 1))) := ⟨_, rfl⟩
    obtain ⟨eL, cD⟩ : ∃ c1, c1 = bJ - (aD : Int).toNat := ⟨_, rfl⟩
    have bK : aT.length = ((wrap64 (aD + 64)) : Int).toNat - (aD : Int).toNat := (by rw [bR.out, List.length_drop, List.length_take] <;> omega)
    rw [show ((aG).take ((wrap64 (aD + 64)) : Int).toNat).drop (aD : Int).toNat = aT from bR.out.symm] at bH
    replace bH : Kd.C (Kd.int .u8) _ eT aT.length aT := (by rw [bL]; exact bH)
    rw [← bK, ← bL, ← cD] at cC
    have aP := Aside0.mk bH
    have cX := q_ (show aT.length ≤ eL from by rw [bK, cD]; exact Nat.sub_le_sub_right (Nat.le_trans (by omega) aH) _)
    clear bH cI aH bO bN cD
    have fE := Aside0.mk bK
    have fH := Aside0.mk bL
    clear bK bL
    have fG := q_ (show ((wrap64 (aD + 64)) : Int).toNat ≤ aG.length from by omega)
    have fF := q_ (show (aD : Int).toNat ≤ ((wrap64 (aD + 64)) : Int).toNat from by omega)
    replace dE := eq_true dE
    obtain ⟨eB, dT, dL⟩ := Kd.R_slice aE.out
    subst dL
    obtain ⟨eA, dS, dK⟩ := Kd.R_slice aN.out
    subst dK
    go_wp2_with (first | ((with_reducible refine gate_callee (f := 72) rfl ?_); refine gl_ (some 26) Try.func72 #[.slice eB aC.length dT, .slice eT aT.length eL, .slice eA bC.length dS] rfl al_ ?_; (with_reducible refine (spec_l2Block.calls k1 _ _ aC _ _ aT _ _ bC cG _ ?side1 ?side2 ?side3 ?side4 ?side5 ?side6 fM.out).mono ?_); (case side1 => exact kc_ (Kd.R_reads' aE.out).2.2); (case side2 => exact (Kd.R_reads' aE.out).2.1); (case side3 => repeat (first | exact (by repeat (first | (with_reducible exact aP.out) | (with_reducible refine Kd.C_alloc ?_ _) | (with_reducible refine Kd.C_drewN ?_ _) | (with_reducible refine Kd.C_drew ?_) | exact aP.out)) | (with_reducible refine Kd.C_alloc ?_ _) | (with_reducible refine Kd.C_drewN ?_ _) | (with_reducible refine Kd.C_drew ?_))); (case side4 => exact cX.out); (case side5 => exact kc_ (Kd.R_reads' aN.out).2.2); (case side6 => exact (Kd.R_reads' aN.out).2.1); rintro e fR ⟨eX, rfl, bI, hb⟩; refine ⟨_, rfl, ?_⟩; replace aK := q_ (Kd.R_below (kr_ aK.out) hb); have cV := q_ (Kd.R_lower (Kd.R_new' (Kd.R_new' bI (Kd.R_lt (kr_ aE.out))) (Kd.R_lt (kr_ aN.out))) (below_size (be_ HB.out))); replace aE := q_ (Kd.R_elder' (kr_ aE.out) (Kd.R_base bI) hb); replace aN := q_ (Kd.R_elder' (kr_ aN.out) (Kd.R_base bI) hb); replace aP := q_ (Kd.C_below (by repeat (first | (with_reducible exact aP.out) | (with_reducible refine Kd.C_alloc ?_ _) | (with_reducible refine Kd.C_drewN ?_ _) | (with_reducible refine Kd.C_drew ?_) | exact aP.out)) hb); replace HB := q_ (below_step (be_ HB.out) hb); (try clear hb); (try clear bI)))
    go_roundg k1
    case measure => have := cY.out; omega
    case rel => exact ⟨(cG), (wrap64 (aD + 64)), rs_, H', ⟨by have := cY.out; omega⟩, ⟨kr_ aK.out⟩, ⟨by (with_reducible repeat (first | apply Kd.R_alloc | apply Kd.R_drewN | apply Kd.R_drew)); exact Kd.R_mono cV.out (fun _ hk => hk.2)⟩, ⟨by (with_reducible repeat (first | apply Kd.R_alloc | apply Kd.R_drewN | apply Kd.R_drew)); exact Kd.R_mono aN.out (fun _ hk => hk.2)⟩, ⟨be_ HB.out⟩⟩
   ·
    rw [if_neg c8] at H
    have dU := decide_eq_false c8
    clear c8
    obtain ⟨dA, bE⟩ : ∃ y_ : List Int, y_ = (([] : List Int)) := ⟨_, rfl⟩
    rw [← bE] at H
    have bQ := Aside0.mk bE
    clear bE
    have H' := Aside0.mk H
    clear H
    obtain ⟨fL, fB, dJ⟩ := Kd.R_slice aK.out
    subst dJ
    go_wp2_with (first | ((with_reducible refine gate_dst (N := 27) rfl ?_); refine Kd.R_lit (Kd.int .u8) _ 5 ?hg (N := 27) ?hd (xs := ([] : List Int)) (inner := []) (ok := fun _ => True) (okp := fun _ => True) ?hr ?hp (fun _ hk => hk) trivial (Below.refl _ _) (Nat.le_refl _) (by simp) ?_; (case hd => rfl); (case hg => rfl); (case hr => first | (go_simp; done) | (go_simp; rfl)); (case hp => exact (Reps.none _ _)); intro eW fQ bA hb hg_ hnew_; clear hg_ hnew_; (first | rw [← bQ.out] at bA | (simp only [Int.reduceToNat] at bA; rw [← bQ.out] at bA)); replace aE := q_ (Kd.R_below (kr_ aE.out) hb); replace aN := q_ (Kd.R_below (kr_ aN.out) hb); have cU := q_ (Kd.R_lower (Kd.R_new' bA (Kd.R_lt (kr_ aK.out))) (below_size (be_ HB.out))); replace aK := q_ (Kd.R_elder' (kr_ aK.out) (Kd.R_base bA) hb); replace HB := q_ (below_step (be_ HB.out) hb); clear hb bA))
    go_loopg [7, 8] k1 (fun kq v7 v8 w' => ∃ (bB : List Int) (aA : Int), v8 = .int .i64 aA ∧ Aside0 (spec_Digest.l1 kq aC bB aA = some r) ∧ Aside0 (kq ≤ k1) ∧ Aside0 (Kd.R (Kd.int .i64) 3 w' w.heap.size (fun _ => True) u4 aC) ∧ Aside0 (Kd.R (Kd.int .u8) 5 w' w.heap.size (fun _ => True) v7 bB) ∧ Aside0 (Below w.heap.size w w'))
    case atStart => exact ⟨(dA), (0), rs_, H', ⟨Nat.le_refl _⟩, ⟨by (with_reducible repeat (first | apply Kd.R_alloc | apply Kd.R_drewN | apply Kd.R_drew)); exact Kd.R_mono aE.out (fun _ hk => trivial)⟩, ⟨by (with_reducible repeat (first | apply Kd.R_alloc | apply Kd.R_drewN | apply Kd.R_drew)); exact Kd.R_mono cU.out (fun _ hk => trivial)⟩, ⟨be_ HB.out⟩⟩
    case round =>
     clear H'
     obtain ⟨bB, aA, rfl, HA, eS, aE, aJ, HB⟩ := hrel
     cases gk with
     | zero => exact absurd HA.out (by simp [spec_Digest.l1])
     | succ k2 =>
      have H := HA.out
      clear HA
      simp only [spec_Digest.l1] at H
      by_cases cE : aA < 8
      ·
       rw [if_pos cE] at H
       have cN := decide_eq_true cE
       clear cE
       obtain ⟨eK, H⟩ := id_ H
       obtain ⟨eJ, H⟩ := id_ H
       obtain ⟨bT, bP, H⟩ := by_ H
       obtain ⟨cS, H⟩ := ia_ H
       obtain ⟨cZ, bD⟩ : ∃ y_ : List Int, y_ = (bB ++ bT) := ⟨_, rfl⟩
       rw [← bD] at H
       have cR := Aside0.mk bD
       clear bD
       have H' := Aside0.mk H
       clear H
       try go_wp2
       replace aE := q_ (Kd.R_drew aE.out)
       replace aJ := q_ (Kd.R_drew aJ.out)
       replace HB := q_ (below_drew1 HB.out)
       obtain ⟨fK, fA, cM⟩ := Kd.R_slice aE.out
       (first | subst cM | (injection cM with cK dI cJ; have dH := cK.symm; have dG := cJ.symm; clear cK dI cJ; subst dH; subst dG))
       have cB : 0 ≤ (aA : Int) := od_
       have bX : aA < (aC.length : Int) := od_
       obtain ⟨aI, dQ, aX⟩ := Kd.at_int (Kd.R_reads' aE.out).2.2 aA cB bX
       cases dQ
       replace cB := eq_true cB
       replace bX := eq_true bX
       have cA : 0 ≤ (aA : Int) := od_
       have bW : aA < (aC.length : Int) := od_
       obtain ⟨cQ, dP, aW⟩ := Kd.at_int (Kd.R_reads' aE.out).2.2 aA cA bW
       obtain rfl : aI = cQ := (by injection dP)
       replace cA := eq_true cA
       replace bW := eq_true bW
       have bZ : 0 ≤ (aA : Int) := od_
       have bV : aA < (aC.length : Int) := od_
       obtain ⟨cP, dO, aV⟩ := Kd.at_int (Kd.R_reads' aE.out).2.2 aA bZ bV
       obtain rfl : aI = cP := (by injection dO)
       replace bZ := eq_true bZ
       replace bV := eq_true bV
       have bY : 0 ≤ (aA : Int) := od_
       have bU : aA < (aC.length : Int) := od_
       obtain ⟨cO, dN, aU⟩ := Kd.at_int (Kd.R_reads' aE.out).2.2 aA bY bU
       obtain rfl : aI = cO := (by injection dN)
       replace bY := eq_true bY
       replace bU := eq_true bU
       refine sr_ (fun w' => w'.cell? (aI.add (aA).toNat) = some (.int .i64 (rd aC aA)) ∧ w'.cell? (aI.add (aA).toNat) = some (.int .i64 (rd aC aA)) ∧ w'.cell? (aI.add (aA).toNat) = some (.int .i64 (rd aC aA)) ∧ w'.cell? (aI.add (aA).toNat) = some (.int .i64 (rd aC aA))) [25] spec_Digest.tab12 spec_Digest.bits12 ⟨aX, aW, aV, aU⟩ (fun hD hT hW => ?_)
       generalize wr.drew = fP at aE aJ HB aX aW aV aU hD ⊢
       refine p_ 0 32 hT ?_; refine p_ 1 33 hT ?_; refine p_ 2 34 hT ?_; refine p_ 3 35 hT ?_; refine p_ 7 39 hT ?_; refine p_ 8 40 hT ?_; refine p_ 9 41 hT ?_; refine p_ 13 45 hT ?_; refine p_ 14 46 hT ?_; refine p_ 15 47 hT ?_; refine p_ 19 51 hT ?_; refine p_ 20 52 hT ?_; refine p_ 21 53 hT ?_; refine k_ 4 36 hT hW hD ?_; refine p_ 5 37 hT ?_; refine p_ 6 38 hT ?_; refine k_ 10 42 hT hW hD ?_; refine p_ 11 43 hT ?_; refine p_ 12 44 hT ?_; refine k_ 16 48 hT hW hD ?_; refine p_ 17 49 hT ?_; refine p_ 18 50 hT ?_; refine k_ 22 54 hT hW hD ?_; refine p_ 23 55 hT ?_
       refine on_ 24 (some 56) (bq_ 25 2) hT (fun K hK => ?_)
       refine Kd.R_lit_step (Kd.int .u8) _ 5 ?hg (N := 56) ?hd (xs := ([((rd aC aA) / 16777216) % 256, ((rd aC aA) / 65536) % 256, ((rd aC aA) / 256) % 256, (rd aC aA) % 256] : List Int)) (inner := [.int .u8 (((rd aC aA) / 16777216) % 256), .int .u8 (((rd aC aA) / 65536) % 256), .int .u8 (((rd aC aA) / 256) % 256), .int .u8 ((rd aC aA) % 256)]) (ok := fun _ => True) (okp := fun _ => True) ?hr ?hp (fun _ hk => hk) trivial (Below.refl _ _) (Nat.le_refl _) (by simp) ?_; (case hd => rfl); (case hg => rfl); (case hr => first | (go_simp; done) | (go_simp; rfl)); (case hp => exact (Reps.one (show Kd.M (Kd.int .u8) _ _ _ (((rd aC aA) / 16777216) % 256) [.int .u8 (((rd aC aA) / 16777216) % 256)] from rfl) (Reps.one (show Kd.M (Kd.int .u8) _ _ _ (((rd aC aA) / 65536) % 256) [.int .u8 (((rd aC aA) / 65536) % 256)] from rfl) (Reps.one (show Kd.M (Kd.int .u8) _ _ _ (((rd aC aA) / 256) % 256) [.int .u8 (((rd aC aA) / 256) % 256)] from rfl) (Reps.one (show Kd.M (Kd.int .u8) _ _ _ ((rd aC aA) % 256) [.int .u8 ((rd aC aA) % 256)] from rfl) (Reps.none _ _))))))
       intro eV fO aZ hb hg_ hnew_
       have dY := (hb.cell (World.block_lt_of_cell? _ _ (hD.1))).trans (hD.1)
       have dX := (hb.cell (World.block_lt_of_cell? _ _ (hD.2.1))).trans (hD.2.1)
       have dW := (hb.cell (World.block_lt_of_cell? _ _ (hD.2.2.1))).trans (hD.2.2.1)
       have dV := (hb.cell (World.block_lt_of_cell? _ _ (hD.2.2.2))).trans (hD.2.2.2)
       clear hg_ hnew_
       (first | rw [← bP.out] at aZ | (simp only [Int.reduceToNat] at aZ; rw [← bP.out] at aZ))
       replace aE := q_ (Kd.R_below (kr_ aE.out) hb)
       have aM := q_ (Kd.R_lower (Kd.R_new' aZ (Kd.R_lt (kr_ aJ.out))) (below_size (be_ HB.out)))
       replace aJ := q_ (Kd.R_elder' (kr_ aJ.out) (Kd.R_base aZ) hb)
       replace HB := q_ (below_step (be_ HB.out) hb)
       clear hb aZ
       obtain ⟨dZ, dR, cL⟩ := Kd.R_slice aM.out
       (first | subst cL | (injection cL with cK dI cJ; have dH := cK.symm; have dG := cJ.symm; clear cK dI cJ; subst dH; subst dG))
       refine hK.out _ _ ⟨dY, dX, dW, dV⟩ (fun hD => ?_)
       clear hK K
       refine nm_ ?_
       refine last_ (i := 25) (N := some 57) (bq_ 26 1) rfl rfl (one_of hT.out (by kernel_rfl)) (by decide) (fun K hK => ?_)
       refine Kd.R_append_rows_step (Kd.int .u8) (w0 := w) w.heap.size (by rfl) (.tmp 32) (.tmp 56) 22 5 (.int .u8 0) 1 rfl Try.underlying22 info5 rfl (by decide) (by omega) u7 bB bT _ _ _ (fun k_ => some k_ ≠ (.slice dZ bT.length dR : Value).ownBlock) (fun _ => False) rfl rfl ?aO ?aR (fun _ _ h => h) (fun _ h => h.elim) ?aF ?aB ?aS ?aL ?_
       (case aR => exact kc_ (Kd.R_reads' aM.out).2.2)
       (case aB => exact (be_ HB.out))
       (case aF => exact (fun k_ hk => Kd.fresh' (Kd.R_lt (kr_ aM.out)) k_ hk))
       (case aO => exact (by (with_reducible repeat (first | apply Kd.R_alloc | apply Kd.R_drewN | apply Kd.R_drew)); exact Kd.R_mono aJ.out (fun _ hk => hk.2)))
       (case aS => exact (below_size (be_ HB.out)))
       (case aL => have := cS.out; omega)
       intro eU fN ho hb hg hat
       rw [← cR.out] at ho
       have eF := q_ (Kd.R_over' (kr_ aE.out) (Kd.R_typed (kr_ aJ.out)) (by decide) hg)
       have eE := q_ (Kd.R_after (ok := (fun _ => True)) (kr_ aM.out) hg hat)
       have eD := q_ (hb)
       have eC := q_ (ho)
       clear aE
       clear aM
       clear HB
       clear aJ
       have aE := eF
       have aM := eE
       have HB := eD
       have cT := eC
       clear eF eE eD eC
       clear ho hb hg hat
       refine hK.out _ _ ?_
       clear hK K
       refine nm_ ?_
       refine p_ 26 7 hT ?_
       refine done_ (done_of hT.out (by kernel_rfl)) ?_
       try go_wp2
       go_roundg k2
       case measure => have := cY.out; have := eS.out; omega
       case rel => exact ⟨(cZ), (wrap64 (aA + 1)), rs_, H', ⟨by have := cY.out; have := eS.out; omega⟩, ⟨kr_ aE.out⟩, ⟨by (with_reducible repeat (first | apply Kd.R_alloc | apply Kd.R_drewN | apply Kd.R_drew)); exact Kd.R_mono cT.out (fun _ hk => trivial)⟩, ⟨be_ HB.out⟩⟩
      · rw [if_neg cE] at H
        have cN := decide_eq_false cE
        clear cE
        obtain rfl := Option.some.inj H
        have eH := own_string (P := Try.prog) Try.underlying22 Try.underlying5 Try.underlying9 (Kd.own_of_R aJ.out)
        go_wp2
        go_ret
        exact ⟨rf_, be_ HB.out⟩
def spec_l4Half.l0 : Nat → Int → Int → Option (Int)
 | 0, _, _ => none
 | k + 1, x0, x3 => if (wrap64 (2 * x3)) < x0 then (spec_l4Half.l0 k x0 (wrap64 (2 * x3))) else (some x3)
def spec_l4Half.f (k : Nat) (a0 : Int) : Option (Int) := spec_l4Half.l0 k a0 1
theorem spec_l4Half.calls (k : Nat) (a0 : Int) (r : Int) (w : World) (h : spec_l4Half.f k a0 = some r) :
 Calls Try.prog 62 #[.int .i64 a0] w fun e w' => e = .returned (.int .i64 r) ∧ Drawn0 w w' := by
 have H := h
 clear h
 unfold spec_l4Half.f at H
 have H' := Aside0.mk H
 clear H
 go_enter Try.func62, Try.ntmps62
 go_wp2
 go_loopg [3] k (fun kq v3 w' => ∃ (aA : Int), v3 = .int .i64 aA ∧ Aside0 (spec_l4Half.l0 kq a0 aA = some r) ∧ Aside0 (kq ≤ k) ∧ Drawn0 w w')
 case atStart => exact ⟨(1), rs_, H', ⟨Nat.le_refl _⟩, by repeat (first | exact Drawn0.refl _ | apply Drawn0.step)⟩
 case round =>
  clear H'
  obtain ⟨aA, rfl, HA, aC, ⟨m1, rfl⟩⟩ := hrel
  cases gk with
  | zero => exact absurd HA.out (by simp [spec_l4Half.l0])
  | succ k1 =>
   have H := HA.out
   clear HA
   simp only [spec_l4Half.l0] at H
   by_cases c2 : (wrap64 (2 * aA)) < a0
   ·
    rw [if_pos c2] at H
    have aB := decide_eq_true c2
    clear c2
    have H' := Aside0.mk H
    clear H
    go_wp2
    go_roundg k1
    case measure => have := aC.out; omega
    case rel => exact ⟨(wrap64 (2 * aA)), rs_, H', ⟨by have := aC.out; omega⟩, by repeat (first | exact Drawn0.refl _ | apply Drawn0.step)⟩
   ·
    rw [if_neg c2] at H
    have aB := decide_eq_false c2
    clear c2
    obtain rfl := Option.some.inj H
    go_wp2
    go_ret
    exact ⟨rs_, by repeat (first | exact Drawn0.refl _ | apply Drawn0.step)⟩
mutual
def spec_PutNum.j0 : Nat → Int → List Int → Option (List Int)
 | 0, _, _ => none
 | k + 1, x1, x5 => if x1 < 0 then (spec_PutNum.j1 k 0 x5) else (spec_PutNum.j1 k x1 x5)
def spec_PutNum.j1 : Nat → Int → List Int → Option (List Int)
 | 0, _, _ => none
 | k + 1, x1, x5 => spec_PutNum.l0 k x1 x5
def spec_PutNum.l0 : Nat → Int → List Int → Option (List Int)
 | 0, _, _ => none
 | k + 1, x1, x5 => if x1 > 127 then (if x5.length < 140737488355328 then (spec_PutNum.l0 k (x1 / 128) (x5 ++ [(Go.bits .or .i64 (Go.bits .and .i64 x1 127) 128) % 256])) else (none)) else (if x5.length < 140737488355328 then (some (x5 ++ [(x1) % 256])) else (none))
end
def spec_PutNum.f (k : Nat) (l0 : List Int) (a1 : Int) : Option (List Int) := (some (([] : List Int) : List Int)).bind fun aB => (if aB.length + l0.length < 140737488355328 then ((some (aB ++ l0 : List Int)).bind fun aA => (if a1 > 1000000000 then (spec_PutNum.j0 k 1000000000 aA) else (spec_PutNum.j0 k a1 aA))) else (none))
theorem spec_PutNum.calls (k : Nat) (A0 : Option Addr) (c0 : Nat) (l0 : List Int) (a1 : Int) (r : List Int) (w : World) (bP : Kd.C (Kd.int .u8) w A0 l0.length l0) (bQ : l0.length ≤ c0) (h : spec_PutNum.f k l0 a1 = some r) :
 Calls Try.prog 73 #[.slice A0 l0.length c0, .int .i64 a1] w fun e w' => ∃ v0_ : Value, e = .returned (v0_) ∧ Kd.R (Kd.int .u8) 5 w' w.heap.size (fun _ => True) v0_ r ∧ Below w.heap.size w w' := by
 have bX := Aside0.mk bP
 have cA := Aside0.mk bQ
 clear bP bQ
 have HB := q_ (Below.refl w.heap.size w)
 have H := h
 clear h
 unfold spec_PutNum.f at H
 obtain ⟨bJ, aQ, H⟩ := by_ H
 obtain ⟨bL, H⟩ := ia_ H
 obtain ⟨aG, bC, H⟩ := by_ H
 have bN := Aside0.mk H
 clear H
 go_enter Try.func73, Try.ntmps73
 go_upto_if 10 with (first | ((with_reducible refine gate_dst (N := 6) rfl ?_); refine Kd.R_lit (Kd.int .u8) _ 5 ?hg (N := 6) ?hd (xs := ([] : List Int)) (inner := []) (ok := fun _ => True) (okp := fun _ => True) ?hr ?hp (fun _ hk => hk) trivial (Below.refl _ _) (Nat.le_refl _) (by simp) ?_; (case hd => rfl); (case hg => rfl); (case hr => first | (go_simp; done) | (go_simp; rfl)); (case hp => exact (Reps.none _ _)); intro bK w5 aY hb hg_ hnew_; clear hg_ hnew_; (first | rw [← aQ.out] at aY | (simp only [Int.reduceToNat] at aY; rw [← aQ.out] at aY)); have aU := q_ (Kd.R_lower aY (below_size (be_ HB.out))); replace HB := q_ (below_step (be_ HB.out) hb); clear hb aY) | ((with_reducible refine gate_builtin (b := .append) (xs := #[.tmp 6, .tmp 7]) rfl ?_); at_builtin; refine Kd.R_append_rows (Kd.int .u8) (w0 := w) w.heap.size rfl (.tmp 6) (.tmp 7) 22 5 (.int .u8 0) 1 rfl Try.underlying22 info5 rfl (by decide) (by omega) bK bJ l0 _ _ _ (fun _ => True) (fun _ => False) rfl rfl ?aO ?aR (fun _ _ h => h) (fun _ h => h.elim) ?aF ?aB ?aS ?aL ?_; (case aR => exact kc_ (Kd.C_below bX.out HB.out)); (case aB => exact (be_ HB.out)); (case aF => exact (fun _ _ => trivial)); (case aO => exact (kr_ aU.out)); (case aS => exact (below_size (be_ HB.out))); (case aL => have := bL.out; omega); intro aX w7 ho hb hg hat; rw [← bC.out] at ho; have aN := q_ (hb); have aM := q_ (ho); clear HB; clear aU; have HB := aN; have aT := aM; clear aN aM; clear ho hb hg hat))
 (try simp only [Act.put, sa_, sz_, ss_])
 go_cut [1] (fun v1 wc => ∃ (kq : Nat) (aA : Int), v1 = .int .i64 aA ∧ Aside0 (spec_PutNum.j0 kq aA aG = some r) ∧ Aside0 (kq ≤ k) ∧ Aside0 (Kd.R (Kd.int .u8) 5 wc w.heap.size (fun _ => True) aX aG) ∧ Aside0 (Below w.heap.size w wc))
 case first =>
  have H := bN.out
  clear bN
  by_cases c8 : a1 > 1000000000
  rotate_left
  ·
   rw [if_neg c8] at H
   have aJ : decide (1000000000 < a1) = false := decide_eq_false c8
   clear c8
   (first | rw [aJ] | (simp only [i64_w, i32_w]; rw [aJ]) | skip)
   have H' := Aside0.mk H
   clear H
   go_wp2
   go_meet
   case rel => exact ⟨_, (a1), rs_, H', ⟨by first | omega | exact Nat.le_refl _⟩, ⟨kr_ aT.out⟩, ⟨be_ HB.out⟩⟩
  rw [if_pos c8] at H
  have aJ : decide (1000000000 < a1) = true := decide_eq_true c8
  clear c8
  (first | rw [aJ] | (simp only [i64_w, i32_w]; rw [aJ]) | skip)
  have H' := Aside0.mk H
  clear H
  go_wp2
  go_meet
  case rel => exact ⟨_, (1000000000), rs_, H', ⟨by first | omega | exact Nat.le_refl _⟩, ⟨kr_ aT.out⟩, ⟨be_ HB.out⟩⟩
 case rest =>
  clear bN
  obtain ⟨kq, aA, rfl, HA, bH, aC, HB⟩ := hcut
  cases kq with
  | zero => exact absurd HA.out (by simp [spec_PutNum.j0])
  | succ bW =>
   have H := HA.out
   clear HA
   simp only [spec_PutNum.j0] at H
   have bM := Aside0.mk H
   clear H
   go_upto_if 12 with (fail)
   go_cut [1] (fun v1 wc => ∃ (kq : Nat) (aK : Int), v1 = .int .i64 aK ∧ Aside0 (spec_PutNum.j1 kq aK aG = some r) ∧ Aside0 (kq ≤ bW) ∧ Aside0 (Kd.R (Kd.int .u8) 5 wc w.heap.size (fun _ => True) aX aG) ∧ Aside0 (Below w.heap.size w wc))
   case first =>
    have H := bM.out
    clear bM
    by_cases aW : aA < 0
    ·
     rw [if_pos aW] at H
     have aD := decide_eq_true aW
     clear aW
     (first | rw [aD] | (simp only [i64_w, i32_w]; rw [aD]) | skip)
     have H' := Aside0.mk H
     clear H
     go_wp2
     go_meet
     case rel => exact ⟨_, (0), rs_, H', ⟨by have := bH.out; first | omega | exact Nat.le_refl _⟩, ⟨kr_ aC.out⟩, ⟨be_ HB.out⟩⟩
    rw [if_neg aW] at H
    have aD := decide_eq_false aW
    clear aW
    (first | rw [aD] | (simp only [i64_w, i32_w]; rw [aD]) | skip)
    have H' := Aside0.mk H
    clear H
    go_wp2
    go_meet
    case rel => exact ⟨_, (aA), rs_, H', ⟨by have := bH.out; first | omega | exact Nat.le_refl _⟩, ⟨kr_ aC.out⟩, ⟨be_ HB.out⟩⟩
   case rest =>
    clear bM
    obtain ⟨kq, aK, rfl, HA, bS, aC, HB⟩ := hcut
    cases kq with
    | zero => exact absurd HA.out (by simp [spec_PutNum.j1])
    | succ bO =>
     have H := HA.out
     clear HA
     simp only [spec_PutNum.j1] at H
     have H' := Aside0.mk H
     clear H
     go_wp2
     go_loopg [1, 5] bO (fun kq v1 v5 w' => ∃ (aA : Int) (aE : List Int), v1 = .int .i64 aA ∧ Aside0 (spec_PutNum.l0 kq aA aE = some r) ∧ Aside0 (kq ≤ bO) ∧ Aside0 (Kd.R (Kd.int .u8) 5 w' w.heap.size (fun _ => True) v5 aE) ∧ Aside0 (Below w.heap.size w w'))
     case atStart => exact ⟨(aK), (aG), rs_, H', ⟨Nat.le_refl _⟩, ⟨kr_ aC.out⟩, ⟨be_ HB.out⟩⟩
     case round =>
      clear H'
      obtain ⟨aA, aE, rfl, HA, bR, aC, HB⟩ := hrel
      cases gk with
      | zero => exact absurd HA.out (by simp [spec_PutNum.l0])
      | succ k3 =>
       have H := HA.out
       clear HA
       simp only [spec_PutNum.l0] at H
       by_cases aV : aA > 127
       · rw [if_pos aV] at H
         have aZ : decide (127 < aA) = true := decide_eq_true aV
         clear aV
         obtain ⟨bE, H⟩ := ia_ H
         obtain ⟨bI, aI⟩ : ∃ y_ : List Int, y_ = (aE ++ [(Go.bits .or .i64 (Go.bits .and .i64 aA 127) 128) % 256]) := ⟨_, rfl⟩
         rw [← aI] at H
         have bB := Aside0.mk aI
         clear aI
         have H' := Aside0.mk H
         clear H
         go_wp2_with (first | ((with_reducible refine gate_builtin (b := .append) (xs := #[.tmp 15, .tmp 20]) rfl ?_); at_builtin; refine Kd.R_append (Kd.int .u8) (w0 := w) w.heap.size rfl (.tmp 15) (.tmp 20) 22 5 (.int .u8 0) 1 rfl Try.underlying22 info5 rfl (by decide) (by omega) u5 aE ((Go.bits .or .i64 (Go.bits .and .i64 aA 127) 128) % 256) [.int .u8 ((Go.bits .or .i64 (Go.bits .and .i64 aA 127) 128) % 256)] (fun _ => True) (fun _ => False) rfl rfl ?aP (fun _ hk => hk.elim) ?aF ?aO ?aB ?aS ?aL ?_; (case aP => exact rfl); (case aB => exact (be_ HB.out)); (case aF => exact (fun _ _ => trivial)); (case aO => exact (kr_ aC.out)); (case aS => exact (below_size (be_ HB.out))); (case aL => have := bE.out; omega); intro bV bZ ho hb hg hat; rw [← bB.out] at ho; have aN := q_ (hb); have aM := q_ (ho); clear HB; clear aC; have HB := aN; have bG := aM; clear aN aM; clear ho hb hg hat))
         go_roundg k3
         case measure => have := bH.out; have := bS.out; have := bR.out; omega
         case rel => exact ⟨(aA / 128), (bI), rs_, H', ⟨by have := bH.out; have := bS.out; have := bR.out; omega⟩, ⟨kr_ bG.out⟩, ⟨be_ HB.out⟩⟩
       · rw [if_neg aV] at H
         have aZ : decide (127 < aA) = false := decide_eq_false aV
         clear aV
         obtain ⟨bD, H⟩ := ia_ H
         obtain ⟨bT, aH⟩ : ∃ y_ : List Int, y_ = (aE ++ [(aA) % 256]) := ⟨_, rfl⟩
         rw [← aH] at H
         have bA := Aside0.mk aH
         clear aH
         obtain rfl := Option.some.inj H
         go_wp2_with (first | ((with_reducible refine gate_builtin (b := .append) (xs := #[.tmp 24, .tmp 27]) rfl ?_); at_builtin; refine Kd.R_append (Kd.int .u8) (w0 := w) w.heap.size rfl (.tmp 24) (.tmp 27) 22 5 (.int .u8 0) 1 rfl Try.underlying22 info5 rfl (by decide) (by omega) u5 aE ((aA) % 256) [.int .u8 ((aA) % 256)] (fun _ => True) (fun _ => False) rfl rfl ?aP (fun _ hk => hk.elim) ?aF ?aO ?aB ?aS ?aL ?_; (case aP => exact rfl); (case aB => exact (be_ HB.out)); (case aF => exact (fun _ _ => trivial)); (case aO => exact (kr_ aC.out)); (case aS => exact (below_size (be_ HB.out))); (case aL => have := bD.out; omega); intro bU bY ho hb hg hat; rw [← bA.out] at ho; have aN := q_ (hb); have aM := q_ (ho); clear HB; clear aC; have HB := aN; have bF := aM; clear aN aM; clear ho hb hg hat))
         go_ret
         exact ⟨_, rf_, kr_ bF.out, be_ HB.out⟩
def spec_PutText.f (k : Nat) (l0 : List Int) (a1 : ByteArray) : Option (List Int) := (spec_PutNum.f k l0 (a1.size : Int)).bind fun aA => (if aA.length + a1.size < 140737488355328 then (some (aA ++ bytesOf a1)) else (none))
theorem spec_PutText.calls (k : Nat) (A0 : Option Addr) (c0 : Nat) (l0 : List Int) (a1 : ByteArray) (r : List Int) (w : World) (aM : Kd.C (Kd.int .u8) w A0 l0.length l0) (aP : l0.length ≤ c0) (h : spec_PutText.f k l0 a1 = some r) :
 Calls Try.prog 90 #[.slice A0 l0.length c0, .string a1] w fun e w' => ∃ v0_ : Value, e = .returned (v0_) ∧ Kd.R (Kd.int .u8) 5 w' w.heap.size (fun _ => True) v0_ r ∧ Below w.heap.size w w' := by
 have aT := Aside0.mk aM
 have aU := Aside0.mk aP
 clear aM aP
 have HB := q_ (Below.refl w.heap.size w)
 have H := h
 clear h
 unfold spec_PutText.f at H
 obtain ⟨aD, A3, H⟩ := bo_ H
 obtain ⟨aI, H⟩ := ia_ H
 obtain ⟨aQ, aA⟩ : ∃ y_ : List Int, y_ = (aD ++ bytesOf a1) := ⟨_, rfl⟩
 rw [← aA] at H
 have aE := Aside0.mk aA
 clear aA
 obtain rfl := Option.some.inj H
 go_enter Try.func90, Try.ntmps90
 go_wp2_with (first | ((with_reducible refine gate_callee (f := 73) rfl ?_); refine gl_ (some 8) Try.func73 #[.slice A0 l0.length c0, .int .i64 (a1.size : Int)] rfl al_ ?_; (with_reducible refine (spec_PutNum.calls k _ _ l0 (a1.size : Int) aD _ ?side1 ?side2 A3.out).mono ?_); (case side1 => exact kc_ aT.out); (case side2 => exact aU.out); rintro e w5 ⟨aH, rfl, aN, hb⟩; refine ⟨_, rfl, ?_⟩; have aC := q_ (Kd.R_lower aN (below_size (be_ HB.out))); replace HB := q_ (below_step (be_ HB.out) hb); (try clear hb); (try clear aN)) | ((with_reducible refine gate_builtin (b := .append) (xs := #[.tmp 8, _]) rfl ?_); at_builtin; refine Kd.R_append_str (w0 := w) w.heap.size rfl (.tmp 8) _ 22 9 5 rfl Try.underlying22 Try.underlying9 info5 aH aD a1 (fun _ => True) rfl rfl ?aF ?aO ?aB ?aS ?aL ?_; (case aB => exact (be_ HB.out)); (case aF => exact (fun _ _ => trivial)); (case aO => exact (kr_ aC.out)); (case aS => exact (below_size (be_ HB.out))); (case aL => have := aI.out; omega); intro aR w6 ho hb hg hat; rw [← aE.out] at ho; have aK := q_ (hb); have aJ := q_ (ho); clear HB; clear aC; have HB := aK; have aG := aJ; clear aK aJ; clear ho hb hg hat))
 go_ret
 exact ⟨_, rf_, kr_ aG.out, be_ HB.out⟩
def spec_l4Leaf.f (k : Nat) (aD : ByteArray) (aC : ByteArray) : Option (List Int) := (spec_PutText.f k (([0] : List Int)) aD).bind fun aB => ((spec_PutText.f k aB aC).bind fun aA => (some aA))
def spec_l4Leaf.T1 : Bool × List (List Nat × List Nat) := (true, [([], []), ([], []), ([1], [1]), ([0, 2], [0, 2]), ([], []), ([4], [4]), ([3, 5, 3], [3, 5]), ([6, 6, 0, 1, 2, 3, 4, 5, 6], [6])])
def spec_l4Leaf.B1 : List Nat := [0, 0, 2, 7, 0, 16, 63, 127]
theorem spec_l4Leaf.tab1 : rtab .any (opsOf Try.f78 1) = spec_l4Leaf.T1 := by kernel_rfl
theorem spec_l4Leaf.bits1 : waitsOk spec_l4Leaf.T1.2 spec_l4Leaf.B1 = true := by kernel_rfl
theorem spec_l4Leaf.calls (k : Nat) (aF : ByteArray) (aE : ByteArray) (r : List Int) (w : World) (h : spec_l4Leaf.f k aF aE = some r) :
 Calls Try.prog 78 #[.agg #[.string aF, .string aE]] w fun e w' => ∃ v0_ : Value, e = .returned (v0_) ∧ Kd.R (Kd.int .u8) 5 w' w.heap.size (fun _ => True) v0_ r ∧ Below w.heap.size w w' := by
 have bB := Try.underlying45
 have HB := q_ (Below.refl w.heap.size w)
 have H := h
 clear h
 unfold spec_l4Leaf.f at H
 obtain ⟨aL, aG⟩ : ∃ y_ : List Int, y_ = (([0] : List Int)) := ⟨_, rfl⟩
 rw [← aG] at H
 have aJ := Aside0.mk aG
 clear aG
 obtain ⟨aK, A2, H⟩ := bo_ H
 obtain ⟨aR, A3, H⟩ := bo_ H
 obtain rfl := Option.some.inj H
 go_enter Try.func78, Try.ntmps78
 try go_wp2_with (first | ((with_reducible refine gate_dst (N := 1) rfl ?_); refine box_event rfl (N := 1) rfl (cs := #[.string aF, .string aE]) (t := 45) hr_ ?_; intro aI hg w4 hbox hb; have aA := q_ (hbox); have aC := ge_ hg (be_ HB.out); replace HB := q_ (below_step (be_ HB.out) hb); clear hb hbox hg))
 replace aA := q_ (blk_drew aA.out)
 replace HB := q_ (below_drew1 HB.out)
 refine sr_ (fun w' => w'.cell? ⟨aI, 0, none⟩ = some (.string aF) ∧ w'.cell? ⟨aI, 1, none⟩ = some (.string aE)) [] spec_l4Leaf.tab1 spec_l4Leaf.bits1 ⟨(blk_cell aA.out 0).trans rfl, (blk_cell aA.out 1).trans rfl⟩ (fun hD hT hW => ?_)
 generalize w4.drew = w5 at aA HB hD ⊢
 refine p_ 1 4 hT ?_; refine p_ 4 7 hT ?_; refine k_ 2 5 hT hW hD ?_; refine k_ 5 8 hT hW hD ?_
 refine on_ 0 (some 3) (br_ [3, 1, 2, 2]) hT (fun K hK => ?_)
 refine Kd.R_lit_step (Kd.int .u8) _ 5 ?hg (N := 3) ?hd (xs := ([0] : List Int)) (inner := [.int .u8 0]) (ok := fun _ => True) (okp := fun _ => True) ?hr ?hp (fun _ hk => hk) trivial (Below.refl _ _) (Nat.le_refl _) (by simp) ?_; (case hd => rfl); (case hg => rfl); (case hr => first | (go_simp; done) | (go_simp; rfl)); (case hp => exact (Reps.one (show Kd.M (Kd.int .u8) _ _ _ 0 [.int .u8 0] from rfl) (Reps.none _ _)))
 intro bA w6 aM hb hg_ hnew_
 clear hg_ hnew_
 (first | rw [← aJ.out] at aM | (simp only [Int.reduceToNat] at aM; rw [← aJ.out] at aM))
 have aB := q_ (Kd.R_lower aM (below_size (bs_ HB.out aC.out)))
 replace aA := q_ (bb_ aA.out hb)
 replace HB := q_ (below_step (bs_ HB.out aC.out) hb)
 clear hb aM
 obtain ⟨bE, bD, aX⟩ := Kd.R_slice aB.out
 (first | subst aX | (injection aX with aO aU aN; have aT := aO.symm; have aS := aN.symm; clear aO aU aN; subst aT; subst aS))
 refine hK.out _ _ ⟨(blk_cell aA.out 0).trans rfl, (blk_cell aA.out 1).trans rfl⟩ (fun hD => ?_)
 clear hK K
 refine nm_ ?_
 refine oc_ 3 6 (bq_ 6 2) hT Try.func90 #[.slice bE aL.length bD, .string aF] ?_
 with_reducible refine (spec_PutText.calls k _ _ aL aF aK _ ?side1 ?side2 A2.out).mono ?_
 (case side1 => exact kc_ (Kd.R_reads' aB.out).2.2)
 (case side2 => exact (Kd.R_reads' aB.out).2.1)
 rintro e w9 ⟨aZ, rfl, aH, hb⟩
 refine ⟨_, rfl, ?_⟩
 have aD := q_ (Kd.R_lower (Kd.R_new' aH (Kd.R_lt (kr_ aB.out))) (below_size (bs_ HB.out aC.out)))
 replace aB := q_ (Kd.R_elder' (kr_ aB.out) (Kd.R_base aH) hb)
 replace aA := q_ (bb_ aA.out hb)
 replace HB := q_ (below_step (bs_ HB.out aC.out) hb)
 (try clear hb)
 (try clear bC)
 (try clear hk)
 (try clear hi)
 (try clear aH)
 obtain ⟨aW, aV, aP⟩ := Kd.R_slice aD.out
 (first | subst aP | (injection aP with aO aU aN; have aT := aO.symm; have aS := aN.symm; clear aO aU aN; subst aT; subst aS))
 refine ⟨⟨(blk_cell aA.out 0).trans rfl, (blk_cell aA.out 1).trans rfl⟩, fun hD => nm_ ?_⟩
 refine oc_ 6 9 (bq_ 7 1) hT Try.func90 #[.slice aW aK.length aV, .string aE] ?_
 with_reducible refine (spec_PutText.calls k _ _ aK aE aR _ ?side1 ?side2 A3.out).mono ?_
 (case side1 => exact kc_ (Kd.R_reads' aD.out).2.2)
 (case side2 => exact (Kd.R_reads' aD.out).2.1)
 rintro e bF ⟨aY, rfl, aH, hb⟩
 refine ⟨_, rfl, ?_⟩
 have aQ := q_ (Kd.R_lower (Kd.R_new' (Kd.R_new' aH (Kd.R_lt (kr_ aB.out))) (Kd.R_lt (kr_ aD.out))) (below_size (bs_ HB.out aC.out)))
 replace aB := q_ (Kd.R_elder' (kr_ aB.out) (Kd.R_base aH) hb)
 replace aD := q_ (Kd.R_elder' (kr_ aD.out) (Kd.R_base aH) hb)
 replace aA := q_ (bb_ aA.out hb)
 replace HB := q_ (below_step (bs_ HB.out aC.out) hb)
 (try clear hb)
 (try clear bC)
 (try clear hk)
 (try clear hi)
 (try clear aH)
 refine ⟨⟨(blk_cell aA.out 0).trans rfl, (blk_cell aA.out 1).trans rfl⟩, fun hD => nm_ ?_⟩
 refine p_ 7 2 hT ?_
 refine done_ (done_of hT.out (by kernel_rfl)) ?_
 try go_wp2
 go_ret
 exact ⟨_, rf_, by (with_reducible repeat (first | apply Kd.R_alloc | apply Kd.R_drewN | apply Kd.R_drew)); exact Kd.R_mono aQ.out (fun _ hk => trivial), bs_ HB.out aC.out⟩
def spec_LeafOf.f (k : Nat) (aD : ByteArray) (aC : ByteArray) : Option (ByteArray) := (spec_l4Leaf.f k aD aC).bind fun aB => ((spec_Digest.f k aB).bind fun aA => (some aA))
theorem spec_LeafOf.calls (k : Nat) (aE : ByteArray) (aD : ByteArray) (r : ByteArray) (w : World) (h : spec_LeafOf.f k aE aD = some r) :
 Calls Try.prog 74 #[.agg #[.string aE, .string aD]] w fun e w' => e = .returned (.string r) ∧ Below w.heap.size w w' := by
 have aO := Try.underlying45
 have HB := q_ (Below.refl w.heap.size w)
 have H := h
 clear h
 unfold spec_LeafOf.f at H
 obtain ⟨aF, A2, H⟩ := bo_ H
 obtain ⟨aG, A3, H⟩ := bo_ H
 obtain rfl := Option.some.inj H
 go_enter Try.func74, Try.ntmps74
 go_wp2_with (first | ((with_reducible refine gate_dst (N := 1) rfl ?_); refine box_event rfl (N := 1) rfl (cs := #[.string aE, .string aD]) (t := 45) hr_ ?_; intro aM hg w4 hbox hb; have aB := q_ (hbox); have aC := ge_ hg (be_ HB.out); replace HB := q_ (below_step (be_ HB.out) hb); clear hb hbox hg; obtain ⟨aK, aJ, aI, aH⟩ := bx2_ aB.out) | ((with_reducible refine gate_callee (f := 78) rfl ?_); refine gl_ (some 4) Try.func78 #[.agg #[.string aE, .string aD]] rfl al_ ?_; (with_reducible refine (spec_l4Leaf.calls k aE aD aF _ A2.out).mono ?_); rintro e w6 ⟨aN, rfl, aL, hb⟩; refine ⟨_, rfl, ?_⟩; have aA := q_ (Kd.R_lower aL (below_size (bs_ HB.out aC.out))); replace aB := q_ (bb_ aB.out hb); replace HB := q_ (below_step (bs_ HB.out aC.out) hb); (try clear hb); (try clear aL); obtain ⟨aR, aQ, aP⟩ := Kd.R_slice aA.out; subst aP) | ((with_reducible refine gate_callee (f := 51) rfl ?_); refine gl_ (some 5) Try.func51 #[.slice aR aF.length aQ] rfl al_ ?_; (with_reducible refine (spec_Digest.calls k _ _ aF aG _ ?side1 ?side2 A3.out).mono ?_); (case side1 => exact kc_ (Kd.R_reads' aA.out).2.2); (case side2 => exact (Kd.R_reads' aA.out).2.1); rintro e w8 ⟨rfl, hb⟩; refine ⟨_, rfl, ?_⟩; replace aA := q_ (Kd.R_below (kr_ aA.out) hb); replace aB := q_ (bb_ aB.out hb); replace HB := q_ (below_step (bs_ HB.out aC.out) hb); (try clear hb)))
 go_ret
 exact ⟨rf_, bs_ HB.out aC.out⟩
def spec_l4Node.f (a0 : ByteArray) (a1 : ByteArray) : Option (List Int) := (some (([1] : List Int) : List Int)).bind fun aB => (if aB.length + a0.size < 140737488355328 then ((some (aB ++ bytesOf a0 : List Int)).bind fun aA => (if aA.length + a1.size < 140737488355328 then (some (aA ++ bytesOf a1)) else (none))) else (none))
theorem spec_l4Node.calls (a0 : ByteArray) (a1 : ByteArray) (r : List Int) (w : World) (h : spec_l4Node.f a0 a1 = some r) :
 Calls Try.prog 88 #[.string a0, .string a1] w fun e w' => ∃ v0_ : Value, e = .returned (v0_) ∧ Kd.R (Kd.int .u8) 5 w' w.heap.size (fun _ => True) v0_ r ∧ Below w.heap.size w w' := by
 have HB := q_ (Below.refl w.heap.size w)
 have H := h
 clear h
 unfold spec_l4Node.f at H
 obtain ⟨aP, aC, H⟩ := by_ H
 obtain ⟨aU, H⟩ := ia_ H
 obtain ⟨aG, aM, H⟩ := by_ H
 obtain ⟨aT, H⟩ := ia_ H
 obtain ⟨aV, aA⟩ : ∃ y_ : List Int, y_ = (aG ++ bytesOf a1) := ⟨_, rfl⟩
 rw [← aA] at H
 have aK := Aside0.mk aA
 clear aA
 obtain rfl := Option.some.inj H
 go_enter Try.func88, Try.ntmps88
 go_wp2_with (first | ((with_reducible refine gate_dst (N := 5) rfl ?_); refine Kd.R_lit (Kd.int .u8) _ 5 ?hg (N := 5) ?hd (xs := ([1] : List Int)) (inner := [.int .u8 1]) (ok := fun _ => True) (okp := fun _ => True) ?hr ?hp (fun _ hk => hk) trivial (Below.refl _ _) (Nat.le_refl _) (by simp) ?_; (case hd => rfl); (case hg => rfl); (case hr => first | (go_simp; done) | (go_simp; rfl)); (case hp => exact (Reps.one (show Kd.M (Kd.int .u8) _ _ _ 1 [.int .u8 1] from rfl) (Reps.none _ _))); intro aR w5 aJ hb hg_ hnew_; clear hg_ hnew_; (first | rw [← aC.out] at aJ | (simp only [Int.reduceToNat] at aJ; rw [← aC.out] at aJ)); have aE := q_ (Kd.R_lower aJ (below_size (be_ HB.out))); replace HB := q_ (below_step (be_ HB.out) hb); clear hb aJ) | ((with_reducible refine gate_builtin (b := .append) (xs := #[.tmp 5, _]) rfl ?_); at_builtin; refine Kd.R_append_str (w0 := w) w.heap.size rfl (.tmp 5) _ 22 9 5 rfl Try.underlying22 Try.underlying9 info5 aR aP a0 (fun _ => True) rfl rfl ?aF ?aO ?aB ?aS ?aL ?_; (case aB => exact (be_ HB.out)); (case aF => exact (fun _ _ => trivial)); (case aO => exact (kr_ aE.out)); (case aS => exact (below_size (be_ HB.out))); (case aL => have := aU.out; omega); intro aQ w7 ho hb hg hat; rw [← aM.out] at ho; have aI := q_ (hb); have aH := q_ (ho); clear HB; clear aE; have HB := aI; have aD := aH; clear aI aH; clear ho hb hg hat) | ((with_reducible refine gate_builtin (b := .append) (xs := #[.tmp 7, _]) rfl ?_); at_builtin; refine Kd.R_append_str (w0 := w) w.heap.size rfl (.tmp 7) _ 22 9 5 rfl Try.underlying22 Try.underlying9 info5 aQ aG a1 (fun _ => True) rfl rfl ?aF ?aO ?aB ?aS ?aL ?_; (case aB => exact (be_ HB.out)); (case aF => exact (fun _ _ => trivial)); (case aO => exact (kr_ aD.out)); (case aS => exact (below_size (be_ HB.out))); (case aL => have := aT.out; omega); intro aW w8 ho hb hg hat; rw [← aK.out] at ho; have aI := q_ (hb); have aH := q_ (ho); clear HB; clear aD; have HB := aI; have aN := aH; clear aI aH; clear ho hb hg hat))
 go_ret
 exact ⟨_, rf_, kr_ aN.out, be_ HB.out⟩
def spec_NodeOf.f (k : Nat) (a0 : ByteArray) (a1 : ByteArray) : Option (ByteArray) := (spec_l4Node.f a0 a1).bind fun aB => ((spec_Digest.f k aB).bind fun aA => (some aA))
theorem spec_NodeOf.calls (k : Nat) (a0 : ByteArray) (a1 : ByteArray) (r : ByteArray) (w : World) (h : spec_NodeOf.f k a0 a1 = some r) :
 Calls Try.prog 75 #[.string a0, .string a1] w fun e w' => e = .returned (.string r) ∧ Below w.heap.size w w' := by
 have HB := q_ (Below.refl w.heap.size w)
 have H := h
 clear h
 unfold spec_NodeOf.f at H
 obtain ⟨aB, A3, H⟩ := bo_ H
 obtain ⟨aC, A4, H⟩ := bo_ H
 obtain rfl := Option.some.inj H
 go_enter Try.func75, Try.ntmps75
 go_wp2_with (first | ((with_reducible refine gate_callee (f := 88) rfl ?_); refine gl_ (some 7) Try.func88 #[.string a0, .string a1] rfl al_ ?_; (with_reducible refine (spec_l4Node.calls a0 a1 aB _ A3.out).mono ?_); rintro e w5 ⟨aE, rfl, aD, hb⟩; refine ⟨_, rfl, ?_⟩; have aA := q_ (Kd.R_lower aD (below_size (be_ HB.out))); replace HB := q_ (below_step (be_ HB.out) hb); (try clear hb); (try clear aD); obtain ⟨aH, aG, aF⟩ := Kd.R_slice aA.out; subst aF) | ((with_reducible refine gate_callee (f := 51) rfl ?_); refine gl_ (some 8) Try.func51 #[.slice aH aB.length aG] rfl al_ ?_; (with_reducible refine (spec_Digest.calls k _ _ aB aC _ ?side1 ?side2 A4.out).mono ?_); (case side1 => exact kc_ (Kd.R_reads' aA.out).2.2); (case side2 => exact (Kd.R_reads' aA.out).2.1); rintro e w7 ⟨rfl, hb⟩; refine ⟨_, rfl, ?_⟩; replace aA := q_ (Kd.R_below (kr_ aA.out) hb); replace HB := q_ (below_step (be_ HB.out) hb); (try clear hb)))
 go_ret
 exact ⟨rf_, be_ HB.out⟩
def spec_l4Inner.f : Nat → List (S45) → Option (ByteArray)
 | 0, _ => none
 | k + 1, l0 => if (l0.length : Int) = 0 then ((spec_Digest.f k (([] : List Int))).bind fun aF => (some aF)) else (if (l0.length : Int) = 1 then (if 0 < (l0.length : Int) then ((spec_LeafOf.f k ((rd_T45 l0 0).f0) ((rd_T45 l0 0).f1)).bind fun aE => (some aE)) else (none)) else ((spec_l4Half.f k (l0.length : Int)).bind fun aA => (if 0 ≤ aA then (if aA ≤ (l0.length : Int) then ((spec_l4Inner.f k (l0.take (aA : Int).toNat)).bind fun aD => ((spec_l4Inner.f k (l0.drop (aA : Int).toNat)).bind fun aC => ((spec_NodeOf.f k aD aC).bind fun aB => (some aB)))) else (none)) else (none))))
def spec_l4Inner.T7 : Bool × List (List Nat × List Nat) := (true, [([], []), ([], []), ([0, 1], [0, 1]), ([2], [2]), ([], []), ([], []), ([4, 5], [4, 5]), ([6, 3], [6]), ([3, 7, 7], [3, 7]), ([8, 8, 0, 1, 2, 3, 4, 5, 6, 7, 8], [8])])
def spec_l4Inner.B7 : List Nat := [0, 0, 3, 7, 0, 0, 48, 127, 255, 511]
theorem spec_l4Inner.tab7 : rtab .any (opsOf Try.f53 7) = spec_l4Inner.T7 := by kernel_rfl
theorem spec_l4Inner.bits7 : waitsOk spec_l4Inner.T7.2 spec_l4Inner.B7 = true := by kernel_rfl
theorem spec_l4Inner.calls (k : Nat) : ∀ (A0 : Option Addr) (c0 : Nat) (l0 : List (S45)) (r : ByteArray) (w : World) (bS : Kd.C k45 w A0 l0.length l0) (bT : l0.length ≤ c0) (h : spec_l4Inner.f k l0 = some r),
 Calls Try.prog 53 #[.slice A0 l0.length c0] w fun e w' => e = .returned (.string r) ∧ Below w.heap.size w w' := by
 induction k using Nat.strongRecOn with
 | _ k ih =>
 intro A0 c0 l0 r w bS bT h
 cases k with
 | zero => exact absurd h (by simp [spec_l4Inner.f])
 | succ k =>
 simp only [spec_l4Inner.f] at h
 have cR := Try.underlying45
 have cB := Aside0.mk bS
 have cM := Aside0.mk bT
 clear bS bT
 have HB := q_ (Below.refl w.heap.size w)
 have H : (if (l0.length : Int) = 0 then ((spec_Digest.f k (([] : List Int))).bind fun bA => (some bA)) else (if (l0.length : Int) = 1 then (if 0 < (l0.length : Int) then ((spec_LeafOf.f k ((rd_T45 l0 0).f0) ((rd_T45 l0 0).f1)).bind fun aZ => (some aZ)) else (none)) else ((spec_l4Half.f k (l0.length : Int)).bind fun aA => (if 0 ≤ aA then (if aA ≤ (l0.length : Int) then ((spec_l4Inner.f k (l0.take (aA : Int).toNat)).bind fun aG => ((spec_l4Inner.f k (l0.drop (aA : Int).toNat)).bind fun aF => ((spec_NodeOf.f k aG aF).bind fun aY => (some aY)))) else (none)) else (none))))) = some r := h
 clear h
 by_cases c2 : (l0.length : Int) = 0
 ·
  rw [if_pos c2] at H
  have bY := beq_iff_eq.mpr c2
  have bX := bne_eq_false_iff_eq.mpr c2
  clear c2
  obtain ⟨bI, aJ⟩ : ∃ y_ : List Int, y_ = (([] : List Int)) := ⟨_, rfl⟩
  rw [← aJ] at H
  have aV := Aside0.mk aJ
  clear aJ
  obtain ⟨bA, A3, H⟩ := bo_ H
  obtain rfl := Option.some.inj H
  go_enter Try.func53, Try.ntmps53
  go_wp2_with (first | ((with_reducible refine gate_dst (N := 8) rfl ?_); refine Kd.R_lit (Kd.int .u8) _ 5 ?hg (N := 8) ?hd (xs := ([] : List Int)) (inner := []) (ok := fun _ => True) (okp := fun _ => True) ?hr ?hp (fun _ hk => hk) trivial (Below.refl _ _) (Nat.le_refl _) (by simp) ?_; (case hd => rfl); (case hg => rfl); (case hr => first | (go_simp; done) | (go_simp; rfl)); (case hp => exact (Reps.none _ _)); intro cO w4 bK hb hg_ hnew_; clear hg_ hnew_; (first | rw [← aV.out] at bK | (simp only [Int.reduceToNat] at bK; rw [← aV.out] at bK)); have aC := q_ (Kd.R_lower bK (below_size (be_ HB.out))); replace HB := q_ (below_step (be_ HB.out) hb); clear hb bK; obtain ⟨dA, cT, cS⟩ := Kd.R_slice aC.out; subst cS) | ((with_reducible refine gate_callee (f := 51) rfl ?_); refine gl_ (some 9) Try.func51 #[.slice dA bI.length cT] rfl al_ ?_; (with_reducible refine (spec_Digest.calls k _ _ bI bA _ ?side1 ?side2 A3.out).mono ?_); (case side1 => exact kc_ (Kd.R_reads' aC.out).2.2); (case side2 => exact (Kd.R_reads' aC.out).2.1); rintro e w7 ⟨rfl, hb⟩; refine ⟨_, rfl, ?_⟩; replace aC := q_ (Kd.R_below (kr_ aC.out) hb); replace HB := q_ (below_step (be_ HB.out) hb); (try clear hb)))
  go_ret
  exact ⟨rf_, be_ HB.out⟩
 ·
  rw [if_neg c2] at H
  have bY := beq_eq_false_iff_ne.mpr c2
  have bX := bne_iff_ne.mpr c2
  have cW : ¬ (l0 = []) := fun h_ => c2 (by rw [h_]; rfl)
  by_cases c8 : (l0.length : Int) = 1
  ·
   rw [if_pos c8] at H
   have bW := beq_iff_eq.mpr c8
   have bV := bne_eq_false_iff_eq.mpr c8
   clear c8
   obtain ⟨c9, H⟩ := ip_ H
   have cV : decide (0 < (l0.length : Int)) = true := decide_eq_true c9
   have cU : decide (0 < l0.length) = true := decide_eq_true (by omega)
   clear c9
   obtain ⟨aZ, dF, H⟩ := bo_ H
   obtain rfl := Option.some.inj H
   have bC : 0 ≤ (0 : Int) := (by omega)
   have bB : 0 < (l0.length : Int) := od_
   obtain ⟨cL, bU, aO, aN⟩ := at_T45 cB.out 0 bC bB
   cases bU
   have cC : (0 < l0.length) = True := eq_true (by omega)
   (try simp only [Int.toNat_zero, Nat.zero_mul, Addr.add_zero'] at aO)
   (try simp only [Int.toNat_zero, Nat.zero_mul, Addr.add_zero'] at aN)
   replace bC := eq_true bC
   replace bB := eq_true bB
   go_enter Try.func53, Try.ntmps53
   go_wp2_with (first | ((with_reducible refine gate_callee (f := 74) rfl ?_); refine gl_ (some 15) Try.func74 #[.agg #[.string ((rd_T45 l0 0).f0), .string ((rd_T45 l0 0).f1)]] rfl al_ ?_; (with_reducible refine (spec_LeafOf.calls k ((rd_T45 l0 0).f0) ((rd_T45 l0 0).f1) aZ _ dF.out).mono ?_); rintro e dK ⟨rfl, hb⟩; refine ⟨_, rfl, ?_⟩; replace HB := q_ (below_step (be_ HB.out) hb); (try clear hb)))
   go_ret
   exact ⟨rf_, be_ HB.out⟩
  ·
   rw [if_neg c8] at H
   have bW := beq_eq_false_iff_ne.mpr c8
   have bV := bne_iff_ne.mpr c8
   obtain ⟨aA, dE, H⟩ := bo_ H
   obtain ⟨cA, H⟩ := ip_ H
   have cK := eq_true cA
   have cJ : decide (0 ≤ aA) = true := decide_eq_true cA
   clear cA
   obtain ⟨bZ, H⟩ := ip_ H
   have cI := eq_true bZ
   have cH : decide (aA ≤ (l0.length : Int)) = true := decide_eq_true bZ
   clear bZ
   obtain ⟨aL, aI⟩ : ∃ y_ : List (S45), y_ = (l0.take (aA : Int).toNat) := ⟨_, rfl⟩
   rw [← aI] at H
   have aU := Aside0.mk aI
   clear aI
   obtain ⟨aG, dD, H⟩ := bo_ H
   have cG := eq_true (od_ : 0 ≤ aA)
   have cF := eq_true (od_ : aA ≤ (l0.length : Int))
   obtain ⟨aD, aH⟩ : ∃ y_ : List (S45), y_ = (l0.drop (aA : Int).toNat) := ⟨_, rfl⟩
   rw [← aH] at H
   have aT := Aside0.mk aH
   clear aH
   obtain ⟨aF, dC, H⟩ := bo_ H
   obtain ⟨aY, dB, H⟩ := bo_ H
   obtain rfl := Option.some.inj H
   go_enter Try.func53, Try.ntmps53
   try go_wp2_with (first | ((with_reducible refine gate_callee (f := 62) rfl ?_); refine gl_ (some 18) Try.func62 #[.int .i64 (l0.length : Int)] rfl al_ ?_; (with_reducible refine (spec_l4Half.calls k (l0.length : Int) aA _ dE.out).mono ?_); rintro e w' ⟨rfl, ⟨nd, rfl⟩⟩; refine ⟨_, rfl, ?_⟩))
   replace HB := q_ (below_drew1 (pw_below_drewN HB.out nd))
   have bQ : (aA : Int) ≤ ((l0.length : Int) : Int) := od_
   obtain ⟨cQ, aS, _, bJ, _⟩ := info_parts info45
   have aE : l0.length ≤ c0 := cM.out
   have bM : Kd.C k45 _ A0 l0.length l0 := cB.out
   have bG := cut_to (P := Try.prog) 24 45 .i64 Try.underlying24 aS A0 l0.length c0 aA od_ bQ aE
   have bE := Kd.C_take (m := (aA : Int).toNat) bM (by omega)
   have bD : aL.length = (aA : Int).toNat := (by rw [aU.out, List.length_take]; omega)
   rw [← aU.out] at bE
   rw [← bD] at bG
   have aX := Aside0.mk bE
   have bO := q_ (show aL.length ≤ c0 from by omega)
   clear bE bM aE aS bJ
   have cY := Aside0.mk bD
   clear bD
   replace bQ := eq_true bQ
   have bP : (aA : Int) ≤ ((l0.length : Int) : Int) := od_
   obtain ⟨cP, aR, _, aQ, _⟩ := info_parts info45
   have aB : l0.length ≤ c0 := cM.out
   have bL : Kd.C k45 _ A0 l0.length l0 := cB.out
   have bR : (0 : Int) ≤ (aA : Int) := od_
   have bF := cut_from (P := Try.prog) 24 45 .i64 Try.underlying24 aR 2 aQ A0 l0.length c0 aA bR bP
   have aK := Kd.C_drop (m := (aA : Int).toNat) (c := c0) bL (by omega) aB
   obtain ⟨cN, aP⟩ : ∃ A1, A1 = (if c0 = (aA : Int).toNat then A0 else (A0 : Option Addr).map (·.add ((aA : Int).toNat * 2))) := ⟨_, rfl⟩
   obtain ⟨cE, bH⟩ : ∃ c1, c1 = c0 - (aA : Int).toNat := ⟨_, rfl⟩
   have aM : aD.length = l0.length - (aA : Int).toNat := (by rw [aT.out, List.length_drop] <;> omega)
   rw [show (l0).drop (aA : Int).toNat = aD from aT.out.symm] at aK
   replace aK : Kd.C k45 _ cN aD.length aD := (by rw [aP]; exact aK)
   rw [← aM, ← aP, ← bH] at bF
   have aW := Aside0.mk aK
   have bN := q_ (show aD.length ≤ cE from by rw [aM, bH]; exact Nat.sub_le_sub_right aB _)
   clear aK bL aB aR aQ bH
   have cX := Aside0.mk aM
   have cZ := Aside0.mk aP
   clear aM aP
   replace bP := eq_true bP
   refine sr_ (fun w' => True) [] spec_l4Inner.tab7 spec_l4Inner.bits7 trivial (fun hD hT hW => ?_)
   generalize (World.drewN w nd).drew = dJ at HB aX aW hD ⊢
   refine p_ 0 19 hT ?_; refine p_ 1 20 hT ?_; refine p_ 2 21 hT ?_; refine p_ 4 23 hT ?_; refine p_ 5 24 hT ?_; refine p_ 6 25 hT ?_
   refine oc_ 3 22 (bq_ 7 3) hT Try.func53 #[.slice A0 aL.length c0] ?_
   with_reducible refine (ih k (by omega) _ _ aL aG _ ?side1 ?side2 dD.out).mono ?_
   (case side1 => exact kc_ (Kd.C_below aX.out HB.out))
   (case side2 => exact bO.out)
   rintro e dI ⟨rfl, hb⟩
   refine ⟨_, rfl, ?_⟩
   replace HB := q_ (below_step (be_ HB.out) hb)
   (try clear hb)
   (try clear cD)
   (try clear hk)
   (try clear hi)
   refine ⟨trivial, fun hD => nm_ ?_⟩
   refine oc_ 7 26 (bq_ 8 2) hT Try.func53 #[.slice cN aD.length cE] ?_
   with_reducible refine (ih k (by omega) _ _ aD aF _ ?side1 ?side2 dC.out).mono ?_
   (case side1 => exact kc_ (Kd.C_below aW.out HB.out))
   (case side2 => exact bN.out)
   rintro e dH ⟨rfl, hb⟩
   refine ⟨_, rfl, ?_⟩
   replace HB := q_ (below_step (be_ HB.out) hb)
   (try clear hb)
   (try clear cD)
   (try clear hk)
   (try clear hi)
   refine ⟨trivial, fun hD => nm_ ?_⟩
   refine oc_ 8 27 (bq_ 9 1) hT Try.func75 #[.string aG, .string aF] ?_
   with_reducible refine (spec_NodeOf.calls k aG aF aY _ dB.out).mono ?_
   rintro e dG ⟨rfl, hb⟩
   refine ⟨_, rfl, ?_⟩
   replace HB := q_ (below_step (be_ HB.out) hb)
   (try clear hb)
   (try clear cD)
   (try clear hk)
   (try clear hi)
   refine ⟨trivial, fun hD => nm_ ?_⟩
   refine p_ 9 2 hT ?_
   refine done_ (done_of hT.out (by kernel_rfl)) ?_
   try go_wp2
   go_ret
   exact ⟨rf_, be_ HB.out⟩
end Go.Proofs.Ytgmfhchhbidlnaa.P
