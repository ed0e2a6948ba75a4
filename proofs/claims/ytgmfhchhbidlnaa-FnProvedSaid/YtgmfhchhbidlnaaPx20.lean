import Derived.Test.YtgmfhchhbidlnaaPx0
import Derived.Test.YtgmfhchhbidlnaaPx10
import Derived.Test.YtgmfhchhbidlnaaPx12
import Derived.Test.YtgmfhchhbidlnaaPx14
import Derived.Test.YtgmfhchhbidlnaaPx15
import Derived.Test.YtgmfhchhbidlnaaPx18
namespace Go.Proofs.Ytgmfhchhbidlnaa.P
open Go.RowKit Go.Proofs.YtgmfhchhbidlnaaW.PrintWords Go.Proofs.YtgmfhchhbidlnaaW.PrintLast Go.Proofs.YtgmfhchhbidlnaaW.PrintMore
attribute [local go_sem] max2_int min2_int max_two min_two max_three min_three max_four min_four
set_option linter.unusedVariables false
set_option maxHeartbeats 8000000
set_option maxRecDepth 100000
set_option linter.unusedSimpArgs false
mutual
def impl_PartAt.j0 : Nat → List (S45) → Int → Int → List ByteArray → Bool → ByteArray → ByteArray → Option (ByteArray × ByteArray × Bool)
 | 0, _, _, _, _, _, _, _ => none
 | k + 1, x0, x2, x3, x4, aQ, aD, aC => if aQ = true then (some ((⟨#[]⟩ : ByteArray), (⟨#[]⟩ : ByteArray), false)) else ((impl_wayTo.f k aD aC x2 x3 x4).bind fun aA => (if aA.2 = true then (if (x0.length : Int) = x3 then (if 0 ≤ x2 then (if x2 < (x0.length : Int) then ((impl_pathOf.f k x0 x2).bind fun aO => ((impl_wayTo.f k ((rd_T45 x0 x2).f0) ((rd_T45 x0 x2).f1) x2 x3 aO).bind fun aH => (impl_PartAt.l0 k x0 aA.1 aH.1 (aA.1.length : Int) 0))) else (none)) else (none)) else (if 0 ≤ (wrap64 ((aA.1.length : Int) - 1)) then (if (wrap64 ((aA.1.length : Int) - 1)) < (aA.1.length : Int) then ((impl_innerOf.f k x0).bind fun aK => ((impl_rootBytes.f k (x0.length : Int) aK).bind fun aF => ((impl_isFull.f k (strOfNums (rd_L9 aA.1 (wrap64 ((aA.1.length : Int) - 1)))) (strOfNums aF)).bind fun aJ => (some (strOfNums (rd_L9 aA.1 (wrap64 ((aA.1.length : Int) - 1))), strOfNums aF, aJ))))) else (none)) else (none))) else (some ((⟨#[]⟩ : ByteArray), (⟨#[]⟩ : ByteArray), false))))
def impl_PartAt.l0 : Nat → List (S45) → List (List Int) → List (List Int) → Int → Int → Option (ByteArray × ByteArray × Bool)
 | 0, _, _, _, _, _ => none
 | k + 1, x0, aB, aI, aP, aE => if aE < aP then (if 0 ≤ aE then (if aE < (aB.length : Int) then (if aE < (aI.length : Int) then ((impl_isFull.f k (strOfNums (rd_L9 aB aE)) (strOfNums (rd_L9 aI aE))).bind fun aN => (if aN = true then (some (strOfNums (rd_L9 aB aE), strOfNums (rd_L9 aI aE), true)) else (impl_PartAt.l0 k x0 aB aI aP (wrap64 (aE + 1))))) else (none)) else (none)) else (none)) else (if 0 ≤ (wrap64 ((aB.length : Int) - 1)) then (if (wrap64 ((aB.length : Int) - 1)) < (aB.length : Int) then ((impl_innerOf.f k x0).bind fun aM => ((impl_rootBytes.f k (x0.length : Int) aM).bind fun aG => ((impl_isFull.f k (strOfNums (rd_L9 aB (wrap64 ((aB.length : Int) - 1)))) (strOfNums aG)).bind fun aL => (some (strOfNums (rd_L9 aB (wrap64 ((aB.length : Int) - 1))), strOfNums aG, aL))))) else (none)) else (none))
end
def impl_PartAt.f (k : Nat) (l0 : List (S45)) (aB : ByteArray) (aA : ByteArray) (a2 : Int) (a3 : Int) (l4 : List ByteArray) : Option (ByteArray × ByteArray × Bool) := (impl_isPlace.f a2 a3).bind fun aD => (if aD = true then ((impl_PairsOk.f k l0).bind fun aC => (impl_PartAt.j0 k l0 a2 a3 l4 (!aC) aB aA)) else (impl_PartAt.j0 k l0 a2 a3 l4 true aB aA))
def impl_PartAt.T7 : Bool × List (List Nat × List Nat) := (true, [([], []), ([], []), ([0, 1], [0, 1]), ([2], [2]), ([], []), ([], []), ([], []), ([], []), ([6, 7], [6, 7]), ([3, 4, 5, 8, 8], [3, 4, 5, 8]), ([9], [9]), ([10], [10]), ([10], [10]), ([11, 9, 0, 1, 2, 3, 4, 5, 6, 7, 8, 9, 10, 11], [11]), ([12, 13, 0, 1, 2, 3, 4, 5, 6, 7, 8, 9, 10, 11, 12, 13], [12])])
def impl_PartAt.B7 : List Nat := [0, 0, 3, 7, 0, 0, 0, 0, 192, 511, 1023, 2047, 2047, 4095, 16383]
theorem impl_PartAt.tab7 : rtab .any (opsOf Try.f35 7) = impl_PartAt.T7 := by kernel_rfl
theorem impl_PartAt.bits7 : waitsOk impl_PartAt.T7.2 impl_PartAt.B7 = true := by kernel_rfl
def impl_PartAt.T11 : Bool × List (List Nat × List Nat) := (true, [([], []), ([], []), ([0, 1], [0, 1]), ([2], [2]), ([3], [3]), ([], []), ([], []), ([5, 6], [5, 6]), ([7], [7]), ([8], [8]), ([4, 0, 1, 2, 3, 4], [4]), ([9, 10, 0, 1, 2, 3, 4, 5, 6, 7, 8, 9, 10], [9])])
def impl_PartAt.B11 : List Nat := [0, 0, 3, 7, 15, 0, 0, 96, 224, 480, 31, 2047]
theorem impl_PartAt.tab11 : rtab .any (opsOf Try.f35 11) = impl_PartAt.T11 := by kernel_rfl
theorem impl_PartAt.bits11 : waitsOk impl_PartAt.T11.2 impl_PartAt.B11 = true := by kernel_rfl
def impl_PartAt.T15 : Bool × List (List Nat × List Nat) := (true, [([], []), ([], []), ([1], [1]), ([2], [2]), ([0, 3], [0, 3]), ([4], [4]), ([5], [5]), ([], []), ([7], [7]), ([], []), ([9], [9]), ([8, 10, 10], [8, 10]), ([11], [11]), ([6, 11, 0, 1, 2, 3, 4, 5, 6], [6]), ([12, 13, 0, 1, 2, 3, 4, 5, 6, 7, 8, 9, 10, 11, 12, 13], [12])])
def impl_PartAt.B15 : List Nat := [0, 0, 2, 6, 15, 31, 63, 0, 128, 0, 512, 1920, 3968, 4095, 16383]
theorem impl_PartAt.tab15 : rtab .any (opsOf Try.f35 15) = impl_PartAt.T15 := by kernel_rfl
theorem impl_PartAt.bits15 : waitsOk impl_PartAt.T15.2 impl_PartAt.B15 = true := by kernel_rfl
theorem impl_PartAt.calls (k : Nat) (A0 : Option Addr) (c0 : Nat) (l0 : List (S45)) (bC : ByteArray) (bB : ByteArray) (a2 : Int) (a3 : Int) (A4 : Option Addr) (c4 : Nat) (l4 : List ByteArray) (r1 : ByteArray) (r2 : ByteArray) (r3 : Bool) (w : World) (gR : Kd.C k45 w A0 l0.length l0) (gZ : l0.length ≤ c0) (gQ : Kd.C Kd.string w A4 l4.length l4) (gY : l4.length ≤ c4) (h : impl_PartAt.f k l0 bC bB a2 a3 l4 = some (r1, r2, r3)) :
 Calls Try.prog 35 #[.slice A0 l0.length c0, .agg #[.string bC, .string bB], .int .i64 a2, .int .i64 a3, .slice A4 l4.length c4] w fun e w' => e = .returned (.tuple #[.string r1, .string r2, .bool r3]) ∧ Below w.heap.size w w' := by
 have hW := Try.underlying45
 have fA := Aside0.mk gR
 have fZ := Aside0.mk gZ
 clear gR gZ
 have gN := Aside0.mk gQ
 have gP := Aside0.mk gY
 clear gQ gY
 have HB := q_ (Below.refl w.heap.size w)
 have H := h
 clear h
 unfold impl_PartAt.f at H
 have gO := Aside0.mk H
 clear H
 go_enter Try.func35, Try.ntmps35
 go_upto_region 1 with (first | ((with_reducible refine gate_dst (N := 6) rfl ?_); refine box_event rfl (N := 6) rfl (cs := #[.string bC, .string bB]) (t := 45) hr_ ?_; intro aZ hg w7 hbox hb; have aA := q_ (hbox); have aC := ge_ hg (be_ HB.out); replace HB := q_ (below_step (be_ HB.out) hb); clear hb hbox hg))
 (try simp only [Act.put, sa_, sz_, ss_])
 go_cut [30] (fun hV wc => ∃ (kq : Nat) (cR : Bool), hV = .bool cR ∧ Aside0 (impl_PartAt.j0 kq l0 a2 a3 l4 cR bC bB = some (r1, r2, r3)) ∧ Aside0 (kq ≤ k) ∧ Aside0 (wc.heap[aZ]? = some (.cells #[.string bC, .string bB] 45 (0, 0))) ∧ Aside0 (Below w.heap.size w wc))
 case first =>
  have H := gO.out
  clear gO
  obtain ⟨gG, A8, H⟩ := bo_ H
  by_cases c9 : gG = true
  rotate_left
  ·
   replace c9 := Bool.eq_false_iff.mpr c9
   subst c9
   rw [if_neg (show ¬ (false = true) by decide)] at H
   have H' := Aside0.mk H
   clear H
   go_wp2_with (first | ((with_reducible refine gate_callee (f := 58) rfl ?_); refine gl_ (some 24) Try.func58 #[.int .i64 a2, .int .i64 a3] rfl al_ ?_; (with_reducible refine (impl_isPlace.calls a2 a3 false _ A8.out).mono ?_); rintro e w' ⟨rfl, ⟨nd, rfl⟩⟩; refine ⟨_, rfl, ?_⟩))
   go_meet
   case rel => exact ⟨_, (true), rs_, H', ⟨by first | omega | exact Nat.le_refl _⟩, ⟨bk_ aA.out⟩, ⟨bs_ HB.out aC.out⟩⟩
  subst c9
  rw [if_pos rfl] at H
  obtain ⟨eJ, iL, H⟩ := bo_ H
  have H' := Aside0.mk H
  clear H
  go_wp2_with (first | ((with_reducible refine gate_callee (f := 58) rfl ?_); refine gl_ (some 24) Try.func58 #[.int .i64 a2, .int .i64 a3] rfl al_ ?_; (with_reducible refine (impl_isPlace.calls a2 a3 true _ A8.out).mono ?_); rintro e w' ⟨rfl, ⟨nd, rfl⟩⟩; refine ⟨_, rfl, ?_⟩) | (go_at_call 25; (with_reducible refine (impl_PairsOk.calls k _ _ l0 eJ _ ?side1 ?side2 iL.out).mono ?_); (case side1 => repeat (first | exact (Kd.C_below fA.out (bs_ HB.out aC.out)) | (with_reducible refine Kd.C_alloc ?_ _) | (with_reducible refine Kd.C_drewN ?_ _) | (with_reducible refine Kd.C_drew ?_))); (case side2 => exact fZ.out); rintro e jC ⟨rfl, hb⟩; replace aA := q_ (bb_ aA.out hb); replace HB := q_ (below_step (bs_ HB.out aC.out) hb); (try clear hb)))
  go_meet
  case rel => exact ⟨_, (!eJ), rs_, H', ⟨by first | omega | exact Nat.le_refl _⟩, ⟨bk_ aA.out⟩, ⟨bs_ HB.out aC.out⟩⟩
 case rest =>
  clear gO
  obtain ⟨kq, cR, rfl, HA, hN, aA, HB⟩ := hcut
  cases kq with
  | zero => exact absurd HA.out (by simp [impl_PartAt.j0])
  | succ dE =>
   have H := HA.out
   clear HA
   simp only [impl_PartAt.j0] at H
   by_cases fW : cR = true
   ·
    subst fW
    rw [if_pos rfl] at H
    simp only [Option.some.injEq, Prod.mk.injEq] at H
    obtain ⟨rfl, rfl, rfl⟩ := H
    go_wp2
    go_ret3
    exact ⟨rf_, bs_ HB.out aC.out⟩
   ·
    replace fW := Bool.eq_false_iff.mpr fW
    subst fW
    rw [if_neg (show ¬ (false = true) by decide)] at H
    obtain ⟨⟨aF, gF⟩, gA, H⟩ := bo_ H; try dsimp only at H
    by_cases fV : gF = true
    ·
     subst fV
     rw [if_pos rfl] at H
     by_cases eG : (l0.length : Int) = a3
     rotate_left
     ·
      rw [if_neg eG] at H
      have eX := beq_eq_false_iff_ne.mpr eG
      have eW := bne_iff_ne.mpr eG
      obtain ⟨bK, bS⟩ : ∃ j_ : Int, (wrap64 ((aF.length : Int) - 1)) = j_ := ⟨_, rfl⟩
      first | rw [bS] at H | simp only [bS] at H
      (try rw [bS] at gA)
      have gH : (IntKind.i64.wrap ((aF.length : Int) - 1)) = bK := (i64_w _).trans bS
      obtain ⟨hD, H⟩ := id_ H
      obtain ⟨hC, H⟩ := id_ H
      obtain ⟨dS, iF, H⟩ := bo_ H
      obtain ⟨dR, iE, H⟩ := bo_ H
      obtain ⟨gB, iD, H⟩ := bo_ H
      simp only [Option.some.injEq, Prod.mk.injEq] at H
      obtain ⟨rfl, rfl, rfl⟩ := H
      obtain ⟨fR, fQ, fL, fK⟩ := bx2_ aA.out
      try go_wp2_with (first | ((with_reducible refine gate_callee (f := 59) rfl ?_); refine gl_ (some 36) Try.func59 #[.agg #[.string bC, .string bB], .int .i64 a2, .int .i64 a3, .slice A4 l4.length c4] rfl al_ ?_; (with_reducible refine (impl_wayTo.calls dE bC bB a2 a3 _ _ l4 aF true _ ?side1 ?side2 gA.out).mono ?_); (case side1 => exact kc_ (Kd.C_below gN.out HB.out)); (case side2 => exact gP.out); rintro e hP ⟨dQ, rfl, bJ, hb⟩; refine ⟨_, rfl, ?_⟩; have aG := q_ (Kd.N_lower (Kd.N_mono (ok' := fun k_ => k_ ≠ aZ) bJ (fun k_ hk_ => (Kd.freshB (g := aZ) (o := .cells #[.string bC, .string bB] 45 (0, 0)) (bk_ aA.out) k_ hk_))) (below_size (bs_ HB.out aC.out))); replace aA := q_ (bb_ aA.out hb); replace HB := q_ (below_step (bs_ HB.out aC.out) hb); (try clear hb); (try clear bJ)))
      replace aG := q_ (Kd.N_drew aG.out)
      replace aA := q_ (blk_drew aA.out)
      replace HB := q_ (below_drew1 HB.out)
      obtain ⟨iA, hX, eN⟩ := Kd.N_slice aG.out
      (first | subst eN | (injection eN with cZ eD cY; have eC := cZ.symm; have eB := cY.symm; clear cZ eD cY; subst eC; subst eB))
      have dM : 0 ≤ ((bK) : Int) := od_
      have dK : (bK) < (aF.length : Int) := od_
      obtain ⟨eY, cG, cO, gK, cA, cS, cU⟩ := at_L9 (Kd.N_reads' aG.out).2.2 (bK) dM dK
      cases gK
      obtain ⟨hA, dX, dZ, cW⟩ := Kd.N_get aG.out [] (bK) dM (by first | exact dK | exact od_ | (have e_ := (Kd.N_reads' aG.out).1; omega))
      obtain ⟨fG, fE, rfl, bU, cE⟩ := Kd.FK_slice_open dZ
      have bO := cW 0 _ rfl
      rw [Nat.add_zero, show ((Kd.slice 5 (Kd.int .u8))).sz = 1 from rfl, Nat.mul_one] at bO
      replace bO := Option.some.inj (bO.symm.trans cA)
      injection bO with hva_ hvn_ hvc_
      rw [hva_] at cE
      rw [hvc_] at bU
      have aT := q_ (show Kd.V (Kd.int .u8) 5 _ w.heap.size _ _ (rd_L9 aF (bK)) from Kd.V_mk bU cE)
      clear hva_ hvn_ hvc_ cE bU
      clear cW dX
      have aH := Aside0.mk cU
      have fX := Aside0.mk cS
      clear cU cS
      replace dM := eq_true dM
      replace dK := eq_true dK
      have gS := Kd.C_string (P := Try.prog) (A := cG) (c := cO) Try.underlying22 Try.underlying5 Try.underlying9 (by repeat (first | (with_reducible exact aH.out) | (with_reducible refine Kd.C_alloc ?_ _) | (with_reducible refine Kd.C_drewN ?_ _) | (with_reducible refine Kd.C_drew ?_) | exact aH.out))
      refine sr_ (fun w' => (w'.cell? (eY.add ((bK)).toNat) = some (.slice cG (rd_L9 aF (bK)).length cO)) ∧ Kd.C (Kd.int .u8) w' cG (rd_L9 aF (bK)).length (rd_L9 aF (bK))) [] impl_PartAt.tab15 impl_PartAt.bits15 ⟨(cA), Kd.C_drew aH.out⟩ (fun hHeld HT_ HW_ => ?_)
      generalize hP.drew = iQ at aG aA HB aT aH cA hHeld ⊢
      refine p_ 0 79 HT_ ?_; refine p_ 1 80 HT_ ?_; refine p_ 2 81 HT_ ?_; refine p_ 3 82 HT_ ?_; refine p_ 4 83 HT_ ?_; refine p_ 7 86 HT_ ?_; refine p_ 8 87 HT_ ?_; refine p_ 9 88 HT_ ?_; refine k_ 5 84 HT_ HW_ hHeld ?_
      refine take_ (i := 6) (N := some 85) (v := ?_) (a' := ?_) (bq_ 10 5) rfl rfl (take_ofW HT_.out HW_.out (by kernel_rfl)) (fun _ _ _ h => h) (Or.inl ⟨by rfl, ?_⟩) hHeld ?_ ?_
      rotate_left
      · rintro w' ⟨_, sc⟩
        have hcv_ := Kd.C_string (P := Try.prog) (A := cG) (c := cO) Try.underlying22 Try.underlying5 Try.underlying9 sc
        go_simp
        with_reducible rfl
      rotate_left
      · simp only [Act.put, sa_, sz_, ss_, i64_w, i32_w]; rfl
      refine oc_ 10 89 (bq_ 11 4) HT_ Try.func47 #[.slice A0 l0.length c0] ?_
      with_reducible refine (impl_innerOf.calls dE _ _ l0 dS _ ?side1 ?side2 iF.out).mono ?_
      (case side1 => exact kc_ (Kd.C_below fA.out HB.out))
      (case side2 => exact fZ.out)
      rintro e iP ⟨rfl, hb⟩
      have cQ := (hb.cell (World.block_lt_of_cell? _ _ (hHeld.1))).trans (hHeld.1)
      have HSC_ := Kd.C_below hHeld.2 hb
      refine ⟨_, rfl, ?_⟩
      replace aG := q_ (Kd.N_below (by (with_reducible repeat (first | apply Kd.N_alloc | apply Kd.N_drewN | apply Kd.N_drew)); exact aG.out) hb)
      replace aT := q_ (Kd.V_below (by (with_reducible repeat (first | apply Kd.V_alloc | apply Kd.V_drewN | apply Kd.V_drew)); exact aT.out) hb)
      replace aA := q_ (bb_ aA.out hb)
      replace aH := q_ (Kd.C_below (by repeat (first | (with_reducible exact aH.out) | (with_reducible refine Kd.C_alloc ?_ _) | (with_reducible refine Kd.C_drewN ?_ _) | (with_reducible refine Kd.C_drew ?_) | exact aH.out)) hb)
      replace HB := q_ (below_step (bs_ HB.out aC.out) hb)
      (try clear hb)
      (try clear eM)
      (try clear hk)
      (try clear hi)
      refine ⟨⟨cQ, HSC_⟩, fun hHeld => nm_ ?_⟩
      refine oc_ 11 90 (bq_ 12 3) HT_ Try.func46 #[.int .i64 (l0.length : Int), .string dS] ?_
      with_reducible refine (impl_rootBytes.calls dE (l0.length : Int) dS dR _ iE.out).mono ?_
      rintro e iO ⟨hR, rfl, bJ, hb⟩
      have cQ := (hb.cell (World.block_lt_of_cell? _ _ (hHeld.1))).trans (hHeld.1)
      have HSC_ := Kd.C_below hHeld.2 hb
      refine ⟨_, rfl, ?_⟩
      replace aG := q_ (Kd.N_elder' (by (with_reducible repeat (first | apply Kd.N_alloc | apply Kd.N_drewN | apply Kd.N_drew)); exact aG.out) (Kd.R_base bJ) hb)
      replace aT := q_ (Kd.V_elder' (by (with_reducible repeat (first | apply Kd.V_alloc | apply Kd.V_drewN | apply Kd.V_drew)); exact aT.out) (Kd.R_base bJ) hb)
      have dC := q_ (Kd.R_lower bJ (below_size (bs_ HB.out aC.out)))
      replace aA := q_ (bb_ aA.out hb)
      replace aH := q_ (Kd.C_below (by repeat (first | (with_reducible exact aH.out) | (with_reducible refine Kd.C_alloc ?_ _) | (with_reducible refine Kd.C_drewN ?_ _) | (with_reducible refine Kd.C_drew ?_) | exact aH.out)) hb)
      replace HB := q_ (below_step (bs_ HB.out aC.out) hb)
      (try clear hb)
      (try clear eM)
      (try clear hk)
      (try clear hi)
      (try clear bJ)
      refine ⟨⟨cQ, HSC_⟩, fun hHeld => nm_ ?_⟩
      refine p_ 13 20 HT_ ?_
      refine on_ 12 (some 91) (bq_ 14 1) HT_ (fun K hK => ?_)
      have eK := own_string (P := Try.prog) Try.underlying22 Try.underlying5 Try.underlying9 (Kd.own_of_R dC.out)
      refine value_ (w1 := ?_) (v := ?_) (by rfl) rfl ?_ ?_
      rotate_left 2
      · go_simp
        constructor
        · rfl
        · rfl
      clear eK
      refine hK.out _ _ hHeld (fun hHeld => ?_)
      clear hK K
      refine nm_ ?_
      refine p_ 14 21 HT_ ?_
      refine done_ (done_of HT_.out (by kernel_rfl)) ?_
      try go_wp2_with (first | ((with_reducible refine gate_callee (f := 60) rfl ?_); refine gl_ (some 96) Try.func60 #[.string (strOfNums (rd_L9 aF (bK))), .string (strOfNums dR)] rfl (by (try simp only [List.map_toArray, List.map_cons, List.map_nil]); first | done | (simp only [bS]; rfl) | rfl | (simp only [List.length_drop, List.length_take]; rfl)) ?_; (with_reducible refine (impl_isFull.calls dE (strOfNums (rd_L9 aF (bK))) (strOfNums dR) gB _ iD.out).mono ?_); rintro e iN ⟨rfl, hb⟩; refine ⟨_, rfl, ?_⟩; replace aG := q_ (Kd.N_below (by (with_reducible repeat (first | apply Kd.N_alloc | apply Kd.N_drewN | apply Kd.N_drew)); exact aG.out) hb); replace aT := q_ (Kd.V_below (by (with_reducible repeat (first | apply Kd.V_alloc | apply Kd.V_drewN | apply Kd.V_drew)); exact aT.out) hb); replace dC := q_ (Kd.R_below (kr_ dC.out) hb); replace aA := q_ (bb_ aA.out hb); replace HB := q_ (below_step (bs_ HB.out aC.out) hb); (try clear hb)))
      go_ret3
      exact ⟨by first | rfl | (simp [errW_none, errW_some] <;> rfl) | (simp only [← bS]; first | rfl | (simp [errW_none, errW_some] <;> rfl)) | (simp [*, errW_none, errW_some] <;> rfl), bs_ HB.out aC.out⟩
     rw [if_pos eG] at H
     have eX := beq_iff_eq.mpr eG
     have eW := bne_eq_false_iff_eq.mpr eG
     clear eG
     obtain ⟨hL, H⟩ := id_ H
     obtain ⟨hJ, H⟩ := id_ H
     obtain ⟨dJ, iK, H⟩ := bo_ H
     obtain ⟨⟨bA, gE⟩, iJ, H⟩ := bo_ H; try dsimp only at H
     have H' := Aside0.mk H
     clear H
     obtain ⟨fT, fS, fN, fM⟩ := bx2_ aA.out
     try go_wp2_with (first | ((with_reducible refine gate_callee (f := 59) rfl ?_); refine gl_ (some 36) Try.func59 #[.agg #[.string bC, .string bB], .int .i64 a2, .int .i64 a3, .slice A4 l4.length c4] rfl al_ ?_; (with_reducible refine (impl_wayTo.calls dE bC bB a2 a3 _ _ l4 aF true _ ?side1 ?side2 gA.out).mono ?_); (case side1 => exact kc_ (Kd.C_below gN.out HB.out)); (case side2 => exact gP.out); rintro e hQ ⟨dQ, rfl, bJ, hb⟩; refine ⟨_, rfl, ?_⟩; have aG := q_ (Kd.N_lower (Kd.N_mono (ok' := fun k_ => k_ ≠ aZ) bJ (fun k_ hk_ => (Kd.freshB (g := aZ) (o := .cells #[.string bC, .string bB] 45 (0, 0)) (bk_ aA.out) k_ hk_))) (below_size (bs_ HB.out aC.out))); replace aA := q_ (bb_ aA.out hb); replace HB := q_ (below_step (bs_ HB.out aC.out) hb); (try clear hb); (try clear bJ)))
     replace aG := q_ (Kd.N_drew aG.out)
     replace aA := q_ (blk_drew aA.out)
     replace HB := q_ (below_drew1 HB.out)
     have dW : 0 ≤ (a2 : Int) := od_
     have dV : a2 < (l0.length : Int) := od_
     obtain ⟨cJ, gM, bN, bM⟩ := at_T45 fA.out a2 dW dV
     have cC := bM
     have cD := bN
     cases gM
     replace bN := hc_ HB.out bN
     replace bM := hc_ HB.out bM
     replace dW := eq_true dW
     replace dV := eq_true dV
     refine sr_ (fun w' => w'.cell? (cJ.add ((a2).toNat * 2)) = some (.string ((rd_T45 l0 a2).f0)) ∧ w'.cell? ⟨(cJ.add ((a2).toNat * 2)).block, (cJ.add ((a2).toNat * 2)).off + 1, none⟩ = some (.string ((rd_T45 l0 a2).f1))) [] impl_PartAt.tab7 impl_PartAt.bits7 ⟨(hc_ HB.out cD), (hc_ HB.out cC)⟩ (fun hHeld HT_ HW_ => ?_)
     generalize hQ.drew = jB at aG aA HB bN bM hHeld ⊢
     refine p_ 0 46 HT_ ?_; refine p_ 1 47 HT_ ?_; refine p_ 2 48 HT_ ?_; refine p_ 4 50 HT_ ?_; refine p_ 5 51 HT_ ?_; refine p_ 6 52 HT_ ?_; refine p_ 7 53 HT_ ?_; refine k_ 3 49 HT_ HW_ hHeld ?_
     refine oc_ 8 54 (bq_ 9 6) HT_ Try.func26 #[.slice (some cJ) l0.length c0, .int .i64 a2] ?_
     with_reducible refine (impl_pathOf.calls dE _ _ l0 a2 dJ _ ?side1 ?side2 iK.out).mono ?_
     (case side1 => exact kc_ (Kd.C_below fA.out HB.out))
     (case side2 => exact fZ.out)
     rintro e jA ⟨hT, rfl, bJ, hb⟩
     refine ⟨_, rfl, ?_⟩
     replace aG := q_ (Kd.N_elder' (by (with_reducible repeat (first | apply Kd.N_alloc | apply Kd.N_drewN | apply Kd.N_drew)); exact aG.out) (Kd.R_base bJ) hb)
     have bT := q_ (Kd.R_lower bJ (below_size (bs_ HB.out aC.out)))
     replace aA := q_ (bb_ aA.out hb)
     replace HB := q_ (below_step (bs_ HB.out aC.out) hb)
     (try clear hb)
     (try clear eM)
     (try clear hk)
     (try clear hi)
     (try clear bJ)
     obtain ⟨fD, eS, eQ⟩ := Kd.R_slice bT.out
     (first | subst eQ | (injection eQ with cZ eD cY; have eC := cZ.symm; have eB := cY.symm; clear cZ eD cY; subst eC; subst eB))
     refine ⟨⟨(hc_ HB.out cD), (hc_ HB.out cC)⟩, fun hHeld => nm_ ?_⟩
     refine oc_ 9 55 (bq_ 10 5) HT_ Try.func59 #[.agg #[.string ((rd_T45 l0 a2).f0), .string ((rd_T45 l0 a2).f1)], .int .i64 a2, .int .i64 a3, .slice fD dJ.length eS] ?_
     with_reducible refine (impl_wayTo.calls dE ((rd_T45 l0 a2).f0) ((rd_T45 l0 a2).f1) a2 a3 _ _ dJ bA gE _ ?side1 ?side2 iJ.out).mono ?_
     (case side1 => exact kc_ (Kd.R_reads' bT.out).2.2)
     (case side2 => exact (Kd.R_reads' bT.out).2.1)
     rintro e iZ ⟨eI, rfl, bJ, hb⟩
     refine ⟨_, rfl, ?_⟩
     have fB := q_ (Kd.N_lower (Kd.N_mono (ok' := fun k_ => some k_ ≠ (dQ : Value).ownBlock ∧ some k_ ≠ (.slice fD dJ.length eS : Value).ownBlock ∧ k_ ≠ aZ) bJ (fun k_ hk_ => ⟨(Kd.fresh' (Kd.N_lt (by (with_reducible repeat (first | apply Kd.N_alloc | apply Kd.N_drewN | apply Kd.N_drew)); exact aG.out)) k_ hk_), (Kd.fresh' (Kd.R_lt (kr_ bT.out)) k_ hk_), (Kd.freshB (g := aZ) (o := .cells #[.string bC, .string bB] 45 (0, 0)) (bk_ aA.out) k_ hk_)⟩)) (below_size (bs_ HB.out aC.out)))
     replace aG := q_ (Kd.N_elder' (by (with_reducible repeat (first | apply Kd.N_alloc | apply Kd.N_drewN | apply Kd.N_drew)); exact aG.out) (Kd.N_base bJ) hb)
     replace bT := q_ (Kd.R_below (kr_ bT.out) hb)
     replace aA := q_ (bb_ aA.out hb)
     replace HB := q_ (below_step (bs_ HB.out aC.out) hb)
     (try clear hb)
     (try clear eM)
     (try clear hk)
     (try clear hi)
     (try clear bJ)
     refine ⟨⟨(hc_ HB.out cD), (hc_ HB.out cC)⟩, fun hHeld => nm_ ?_⟩
     refine p_ 10 45 HT_ ?_; refine p_ 11 56 HT_ ?_; refine p_ 12 57 HT_ ?_; refine p_ 13 15 HT_ ?_; refine p_ 14 16 HT_ ?_
     refine done_ (done_of HT_.out (by kernel_rfl)) ?_
     obtain ⟨fC, eR, gJ⟩ := Kd.N_slice aG.out
     subst gJ
     try go_wp2
     go_loopg [60] dE (fun kq hU w' => ∃ (aB : Int), hU = .int .i64 aB ∧ Aside0 (impl_PartAt.l0 kq l0 aF bA (aF.length : Int) aB = some (r1, r2, r3)) ∧ Aside0 (kq ≤ dE) ∧ Aside0 (Kd.N (Kd.slice 5 (Kd.int .u8)) 22 w' w.heap.size (fun k_ => some k_ ≠ (eI : Value).ownBlock ∧ k_ ≠ aZ) (.slice fC aF.length eR) aF) ∧ Aside0 (Kd.N (Kd.slice 5 (Kd.int .u8)) 22 w' w.heap.size (fun k_ => some k_ ≠ ((.slice fC aF.length eR) : Value).ownBlock ∧ k_ ≠ aZ) eI bA) ∧ Aside0 (w'.heap[aZ]? = some (.cells #[.string bC, .string bB] 45 (0, 0))) ∧ Aside0 (Below w.heap.size w w'))
     case atStart => exact ⟨(0), rs_, H', ⟨Nat.le_refl _⟩, ⟨by (with_reducible repeat (first | apply Kd.N_alloc | apply Kd.N_drewN | apply Kd.N_drew)); exact Kd.N_mono aG.out (fun _ hk => ⟨hk.2, hk.1.1⟩)⟩, ⟨by (with_reducible repeat (first | apply Kd.N_alloc | apply Kd.N_drewN | apply Kd.N_drew)); exact Kd.N_mono fB.out (fun _ hk => ⟨hk.1, hk.2.2⟩)⟩, ⟨bk_ aA.out⟩, ⟨bs_ HB.out aC.out⟩⟩
     case round =>
      clear H'
      obtain ⟨aB, rfl, HA, hM, aD, aE, aA, HB⟩ := hrel
      cases gk with
      | zero => exact absurd HA.out (by simp [impl_PartAt.l0])
      | succ k2 =>
       have H := HA.out
       clear HA
       simp only [impl_PartAt.l0] at H
       by_cases eH : aB < (aF.length : Int)
       rotate_left
       · rw [if_neg eH] at H
         have eV := decide_eq_false eH
         clear eH
         obtain ⟨bL, cI⟩ : ∃ j_ : Int, (wrap64 ((aF.length : Int) - 1)) = j_ := ⟨_, rfl⟩
         first | rw [cI] at H | simp only [cI] at H
         have gI : (IntKind.i64.wrap ((aF.length : Int) - 1)) = bL := (i64_w _).trans cI
         obtain ⟨hF, H⟩ := id_ H
         obtain ⟨hE, H⟩ := id_ H
         obtain ⟨dU, iI, H⟩ := bo_ H
         obtain ⟨dT, iH, H⟩ := bo_ H
         obtain ⟨gC, iG, H⟩ := bo_ H
         simp only [Option.some.injEq, Prod.mk.injEq] at H
         obtain ⟨rfl, rfl, rfl⟩ := H
         try go_wp2
         replace aD := q_ (Kd.N_drew aD.out)
         replace aE := q_ (Kd.N_drew aE.out)
         replace aA := q_ (blk_drew aA.out)
         replace HB := q_ (below_drew1 HB.out)
         have dN : 0 ≤ ((bL) : Int) := od_
         have dL : (bL) < (aF.length : Int) := od_
         obtain ⟨eZ, cH, cP, gL, cB, cT, cV⟩ := at_L9 (Kd.N_reads' aD.out).2.2 (bL) dN dL
         cases gL
         obtain ⟨hB, dY, eA, cX⟩ := Kd.N_get aD.out [] (bL) dN (by first | exact dL | exact od_ | (have e_ := (Kd.N_reads' aD.out).1; omega))
         obtain ⟨fH, fF, rfl, bV, cF⟩ := Kd.FK_slice_open eA
         have bP := cX 0 _ rfl
         rw [Nat.add_zero, show ((Kd.slice 5 (Kd.int .u8))).sz = 1 from rfl, Nat.mul_one] at bP
         replace bP := Option.some.inj (bP.symm.trans cB)
         injection bP with hva_ hvn_ hvc_
         rw [hva_] at cF
         rw [hvc_] at bV
         have aU := q_ (show Kd.V (Kd.int .u8) 5 _ w.heap.size _ _ (rd_L9 aF (bL)) from Kd.V_mk bV cF)
         clear hva_ hvn_ hvc_ cF bV
         clear cX dY
         have aI := Aside0.mk cV
         have fY := Aside0.mk cT
         clear cV cT
         replace dN := eq_true dN
         replace dL := eq_true dL
         have gT := Kd.C_string (P := Try.prog) (A := cH) (c := cP) Try.underlying22 Try.underlying5 Try.underlying9 (by repeat (first | (with_reducible exact aI.out) | (with_reducible refine Kd.C_alloc ?_ _) | (with_reducible refine Kd.C_drewN ?_ _) | (with_reducible refine Kd.C_drew ?_) | exact aI.out))
         refine sr_ (fun w' => (w'.cell? (eZ.add ((bL)).toNat) = some (.slice cH (rd_L9 aF (bL)).length cP)) ∧ Kd.C (Kd.int .u8) w' cH (rd_L9 aF (bL)).length (rd_L9 aF (bL))) [] impl_PartAt.tab15 impl_PartAt.bits15 ⟨(cB), Kd.C_drew aI.out⟩ (fun hHeld HT_ HW_ => ?_)
         generalize wr.drew = iU at aD aE aA HB aU aI cB hHeld ⊢
         refine p_ 0 79 HT_ ?_; refine p_ 1 80 HT_ ?_; refine p_ 2 81 HT_ ?_; refine p_ 3 82 HT_ ?_; refine p_ 4 83 HT_ ?_; refine p_ 7 86 HT_ ?_; refine p_ 8 87 HT_ ?_; refine p_ 9 88 HT_ ?_; refine k_ 5 84 HT_ HW_ hHeld ?_
         refine take_ (i := 6) (N := some 85) (v := ?_) (a' := ?_) (bq_ 10 5) rfl rfl (take_ofW HT_.out HW_.out (by kernel_rfl)) (fun _ _ _ h => h) (Or.inl ⟨by rfl, ?_⟩) hHeld ?_ ?_
         rotate_left
         · rintro w' ⟨_, sc⟩
           have hcv_ := Kd.C_string (P := Try.prog) (A := cH) (c := cP) Try.underlying22 Try.underlying5 Try.underlying9 sc
           go_simp
           with_reducible rfl
         rotate_left
         · simp only [Act.put, sa_, sz_, ss_, i64_w, i32_w]; rfl
         refine oc_ 10 89 (bq_ 11 4) HT_ Try.func47 #[.slice (some cJ) l0.length c0] ?_
         with_reducible refine (impl_innerOf.calls k2 _ _ l0 dU _ ?side1 ?side2 iI.out).mono ?_
         (case side1 => exact kc_ (Kd.C_below fA.out HB.out))
         (case side2 => exact fZ.out)
         rintro e iT ⟨rfl, hb⟩
         have cQ := (hb.cell (World.block_lt_of_cell? _ _ (hHeld.1))).trans (hHeld.1)
         have HSC_ := Kd.C_below hHeld.2 hb
         refine ⟨_, rfl, ?_⟩
         replace aD := q_ (Kd.N_below (by (with_reducible repeat (first | apply Kd.N_alloc | apply Kd.N_drewN | apply Kd.N_drew)); exact aD.out) hb)
         replace aE := q_ (Kd.N_below (by (with_reducible repeat (first | apply Kd.N_alloc | apply Kd.N_drewN | apply Kd.N_drew)); exact aE.out) hb)
         replace aU := q_ (Kd.V_below (by (with_reducible repeat (first | apply Kd.V_alloc | apply Kd.V_drewN | apply Kd.V_drew)); exact aU.out) hb)
         replace aA := q_ (bb_ aA.out hb)
         replace aI := q_ (Kd.C_below (by repeat (first | (with_reducible exact aI.out) | (with_reducible refine Kd.C_alloc ?_ _) | (with_reducible refine Kd.C_drewN ?_ _) | (with_reducible refine Kd.C_drew ?_) | exact aI.out)) hb)
         replace HB := q_ (below_step (bs_ HB.out aC.out) hb)
         (try clear hb)
         (try clear eM)
         (try clear hk)
         (try clear hi)
         refine ⟨⟨cQ, HSC_⟩, fun hHeld => nm_ ?_⟩
         refine oc_ 11 90 (bq_ 12 3) HT_ Try.func46 #[.int .i64 (l0.length : Int), .string dU] ?_
         with_reducible refine (impl_rootBytes.calls k2 (l0.length : Int) dU dT _ iH.out).mono ?_
         rintro e iS ⟨hS, rfl, bJ, hb⟩
         have cQ := (hb.cell (World.block_lt_of_cell? _ _ (hHeld.1))).trans (hHeld.1)
         have HSC_ := Kd.C_below hHeld.2 hb
         refine ⟨_, rfl, ?_⟩
         replace aD := q_ (Kd.N_elder' (by (with_reducible repeat (first | apply Kd.N_alloc | apply Kd.N_drewN | apply Kd.N_drew)); exact aD.out) (Kd.R_base bJ) hb)
         replace aE := q_ (Kd.N_elder' (by (with_reducible repeat (first | apply Kd.N_alloc | apply Kd.N_drewN | apply Kd.N_drew)); exact aE.out) (Kd.R_base bJ) hb)
         replace aU := q_ (Kd.V_elder' (by (with_reducible repeat (first | apply Kd.V_alloc | apply Kd.V_drewN | apply Kd.V_drew)); exact aU.out) (Kd.R_base bJ) hb)
         have dD := q_ (Kd.R_lower bJ (below_size (bs_ HB.out aC.out)))
         replace aA := q_ (bb_ aA.out hb)
         replace aI := q_ (Kd.C_below (by repeat (first | (with_reducible exact aI.out) | (with_reducible refine Kd.C_alloc ?_ _) | (with_reducible refine Kd.C_drewN ?_ _) | (with_reducible refine Kd.C_drew ?_) | exact aI.out)) hb)
         replace HB := q_ (below_step (bs_ HB.out aC.out) hb)
         (try clear hb)
         (try clear eM)
         (try clear hk)
         (try clear hi)
         (try clear bJ)
         refine ⟨⟨cQ, HSC_⟩, fun hHeld => nm_ ?_⟩
         refine p_ 13 20 HT_ ?_
         refine on_ 12 (some 91) (bq_ 14 1) HT_ (fun K hK => ?_)
         have eL := own_string (P := Try.prog) Try.underlying22 Try.underlying5 Try.underlying9 (Kd.own_of_R dD.out)
         refine value_ (w1 := ?_) (v := ?_) (by rfl) rfl ?_ ?_
         rotate_left 2
         · go_simp
           constructor
           · rfl
           · rfl
         clear eL
         refine hK.out _ _ hHeld (fun hHeld => ?_)
         clear hK K
         refine nm_ ?_
         refine p_ 14 21 HT_ ?_
         refine done_ (done_of HT_.out (by kernel_rfl)) ?_
         try go_wp2_with (first | ((with_reducible refine gate_callee (f := 60) rfl ?_); refine gl_ (some 96) Try.func60 #[.string (strOfNums (rd_L9 aF (bL))), .string (strOfNums dT)] rfl (by (try simp only [List.map_toArray, List.map_cons, List.map_nil]); first | done | (simp only [cI]; rfl) | rfl | (simp only [List.length_drop, List.length_take]; rfl)) ?_; (with_reducible refine (impl_isFull.calls k2 (strOfNums (rd_L9 aF (bL))) (strOfNums dT) gC _ iG.out).mono ?_); rintro e iR ⟨rfl, hb⟩; refine ⟨_, rfl, ?_⟩; replace aD := q_ (Kd.N_below (by (with_reducible repeat (first | apply Kd.N_alloc | apply Kd.N_drewN | apply Kd.N_drew)); exact aD.out) hb); replace aE := q_ (Kd.N_below (by (with_reducible repeat (first | apply Kd.N_alloc | apply Kd.N_drewN | apply Kd.N_drew)); exact aE.out) hb); replace aU := q_ (Kd.V_below (by (with_reducible repeat (first | apply Kd.V_alloc | apply Kd.V_drewN | apply Kd.V_drew)); exact aU.out) hb); replace dD := q_ (Kd.R_below (kr_ dD.out) hb); replace aA := q_ (bb_ aA.out hb); replace HB := q_ (below_step (bs_ HB.out aC.out) hb); (try clear hb)))
         go_ret3
         exact ⟨by first | rfl | (simp [errW_none, errW_some] <;> rfl) | (simp only [← cI]; first | rfl | (simp [errW_none, errW_some] <;> rfl)) | (simp [*, errW_none, errW_some] <;> rfl), bs_ HB.out aC.out⟩
       rw [if_pos eH] at H
       have eV := decide_eq_true eH
       clear eH
       obtain ⟨hI, H⟩ := id_ H
       obtain ⟨hH, H⟩ := id_ H
       obtain ⟨hG, H⟩ := id_ H
       obtain ⟨gD, hO, H⟩ := bo_ H
       by_cases fU : gD = true
       · subst fU
         rw [if_pos rfl] at H
         simp only [Option.some.injEq, Prod.mk.injEq] at H
         obtain ⟨rfl, rfl, rfl⟩ := H
         try go_wp2
         replace aD := q_ (Kd.N_drew aD.out)
         replace aE := q_ (Kd.N_drew aE.out)
         replace aA := q_ (blk_drew aA.out)
         replace HB := q_ (below_drew1 HB.out)
         have bZ : 0 ≤ (aB : Int) := od_
         have bX : aB < (aF.length : Int) := od_
         obtain ⟨dB, aY, bE, eF, aQ, bG, bI⟩ := at_L9 (Kd.N_reads' aD.out).2.2 aB bZ bX
         cases eF
         obtain ⟨eU, cL, cN, bR⟩ := Kd.N_get aD.out [] aB bZ (by first | exact bX | exact od_ | (have e_ := (Kd.N_reads' aD.out).1; omega))
         obtain ⟨dI, dG, rfl, aO, aS⟩ := Kd.FK_slice_open cN
         have aK := bR 0 _ rfl
         rw [Nat.add_zero, show ((Kd.slice 5 (Kd.int .u8))).sz = 1 from rfl, Nat.mul_one] at aK
         replace aK := Option.some.inj (aK.symm.trans aQ)
         injection aK with hva_ hvn_ hvc_
         rw [hva_] at aS
         rw [hvc_] at aO
         have aW := q_ (show Kd.V (Kd.int .u8) 5 _ w.heap.size _ _ (rd_L9 aF aB) from Kd.V_mk aO aS)
         clear hva_ hvn_ hvc_ aS aO
         clear bR cL
         have aM := Aside0.mk bI
         have dP := Aside0.mk bG
         clear bI bG
         replace bZ := eq_true bZ
         replace bX := eq_true bX
         obtain ⟨iC, hZ, eP⟩ := Kd.N_slice aE.out
         (first | subst eP | (injection eP with cZ eD cY; have eC := cZ.symm; have eB := cY.symm; clear cZ eD cY; subst eC; subst eB))
         have bY : 0 ≤ (aB : Int) := od_
         have bW : aB < (bA.length : Int) := od_
         obtain ⟨dA, aX, bD, eE, aP, bF, bH⟩ := at_L9 (Kd.N_reads' aE.out).2.2 aB bY bW
         cases eE
         obtain ⟨eT, cK, cM, bQ⟩ := Kd.N_get aE.out [] aB bY (by first | exact bW | exact od_ | (have e_ := (Kd.N_reads' aE.out).1; omega))
         obtain ⟨dH, dF, rfl, aN, aR⟩ := Kd.FK_slice_open cM
         have aJ := bQ 0 _ rfl
         rw [Nat.add_zero, show ((Kd.slice 5 (Kd.int .u8))).sz = 1 from rfl, Nat.mul_one] at aJ
         replace aJ := Option.some.inj (aJ.symm.trans aP)
         injection aJ with hva_ hvn_ hvc_
         rw [hva_] at aR
         rw [hvc_] at aN
         have aV := q_ (show Kd.V (Kd.int .u8) 5 _ w.heap.size _ _ (rd_L9 bA aB) from Kd.V_mk aN aR)
         clear hva_ hvn_ hvc_ aR aN
         clear bQ cK
         have aL := Aside0.mk bH
         have dO := Aside0.mk bF
         clear bH bF
         replace bY := eq_true bY
         replace bW := eq_true bW
         have gX := Kd.C_string (P := Try.prog) (A := aY) (c := bE) Try.underlying22 Try.underlying5 Try.underlying9 (by repeat (first | (with_reducible exact aM.out) | (with_reducible refine Kd.C_alloc ?_ _) | (with_reducible refine Kd.C_drewN ?_ _) | (with_reducible refine Kd.C_drew ?_) | exact aM.out))
         have gW := Kd.C_string (P := Try.prog) (A := aX) (c := bD) Try.underlying22 Try.underlying5 Try.underlying9 (by repeat (first | (with_reducible exact aL.out) | (with_reducible refine Kd.C_alloc ?_ _) | (with_reducible refine Kd.C_drewN ?_ _) | (with_reducible refine Kd.C_drew ?_) | exact aL.out))
         refine sr_ (fun w' => (w'.cell? (dB.add (aB).toNat) = some (.slice aY (rd_L9 aF aB).length bE) ∧ w'.cell? (dA.add (aB).toNat) = some (.slice aX (rd_L9 bA aB).length bD)) ∧ Kd.C (Kd.int .u8) w' aY (rd_L9 aF aB).length (rd_L9 aF aB) ∧ Kd.C (Kd.int .u8) w' aX (rd_L9 bA aB).length (rd_L9 bA aB)) [] impl_PartAt.tab11 impl_PartAt.bits11 ⟨⟨aQ, aP⟩, Kd.C_drew aM.out, Kd.C_drew aL.out⟩ (fun hHeld HT_ HW_ => ?_)
         generalize wr.drew = iY at aD aE aA HB aW aV aM aL aQ aP hHeld ⊢
         refine p_ 0 63 HT_ ?_; refine p_ 1 64 HT_ ?_; refine p_ 2 65 HT_ ?_; refine p_ 5 68 HT_ ?_; refine p_ 6 69 HT_ ?_; refine p_ 7 70 HT_ ?_; refine k_ 3 66 HT_ HW_ hHeld ?_
         refine take_ (i := 4) (N := some 67) (v := ?_) (a' := ?_) (bq_ 8 4) rfl rfl (take_ofW HT_.out HW_.out (by kernel_rfl)) (fun _ _ _ h => h) (Or.inl ⟨by rfl, ?_⟩) hHeld ?_ ?_
         rotate_left
         · rintro w' ⟨_, sc⟩
           have hcv_ := Kd.C_string (P := Try.prog) (A := aY) (c := bE) Try.underlying22 Try.underlying5 Try.underlying9 sc.1
           go_simp
           with_reducible rfl
         rotate_left
         · simp only [Act.put, sa_, sz_, ss_, i64_w, i32_w]; rfl
         refine p_ 10 18 HT_ ?_; refine k_ 8 71 HT_ HW_ hHeld ?_
         refine take_ (i := 9) (N := some 72) (v := ?_) (a' := ?_) (bq_ 11 1) rfl rfl (take_ofW HT_.out HW_.out (by kernel_rfl)) (fun _ _ _ h => h) (Or.inl ⟨by rfl, ?_⟩) hHeld ?_ ?_
         rotate_left
         · rintro w' ⟨_, sc⟩
           have hcv_ := Kd.C_string (P := Try.prog) (A := aX) (c := bD) Try.underlying22 Try.underlying5 Try.underlying9 sc.2
           go_simp
           with_reducible rfl
         rotate_left
         · simp only [Act.put, sa_, sz_, ss_, i64_w, i32_w]; rfl
         refine p_ 11 19 HT_ ?_
         refine done_ (done_of HT_.out (by kernel_rfl)) ?_
         try go_wp2_with (first | ((with_reducible refine gate_callee (f := 60) rfl ?_); refine gl_ (some 75) Try.func60 #[.string (strOfNums (rd_L9 aF aB)), .string (strOfNums (rd_L9 bA aB))] rfl al_ ?_; (with_reducible refine (impl_isFull.calls k2 (strOfNums (rd_L9 aF aB)) (strOfNums (rd_L9 bA aB)) true _ hO.out).mono ?_); rintro e iX ⟨rfl, hb⟩; refine ⟨_, rfl, ?_⟩; replace aD := q_ (Kd.N_below (by (with_reducible repeat (first | apply Kd.N_alloc | apply Kd.N_drewN | apply Kd.N_drew)); exact aD.out) hb); replace aE := q_ (Kd.N_below (by (with_reducible repeat (first | apply Kd.N_alloc | apply Kd.N_drewN | apply Kd.N_drew)); exact aE.out) hb); replace aW := q_ (Kd.V_below (by (with_reducible repeat (first | apply Kd.V_alloc | apply Kd.V_drewN | apply Kd.V_drew)); exact aW.out) hb); replace aV := q_ (Kd.V_below (by (with_reducible repeat (first | apply Kd.V_alloc | apply Kd.V_drewN | apply Kd.V_drew)); exact aV.out) hb); replace aA := q_ (bb_ aA.out hb); replace HB := q_ (below_step (bs_ HB.out aC.out) hb); (try clear hb)))
         go_ret3
         exact ⟨rf_, bs_ HB.out aC.out⟩
       replace fU := Bool.eq_false_iff.mpr fU
       subst fU
       rw [if_neg (show ¬ (false = true) by decide)] at H
       have H' := Aside0.mk H
       clear H
       try go_wp2
       replace aD := q_ (Kd.N_drew aD.out)
       replace aE := q_ (Kd.N_drew aE.out)
       replace aA := q_ (blk_drew aA.out)
       replace HB := q_ (below_drew1 HB.out)
       have bZ : 0 ≤ (aB : Int) := od_
       have bX : aB < (aF.length : Int) := od_
       obtain ⟨dB, aY, bE, eF, aQ, bG, bI⟩ := at_L9 (Kd.N_reads' aD.out).2.2 aB bZ bX
       cases eF
       obtain ⟨eU, cL, cN, bR⟩ := Kd.N_get aD.out [] aB bZ (by first | exact bX | exact od_ | (have e_ := (Kd.N_reads' aD.out).1; omega))
       obtain ⟨dI, dG, rfl, aO, aS⟩ := Kd.FK_slice_open cN
       have aK := bR 0 _ rfl
       rw [Nat.add_zero, show ((Kd.slice 5 (Kd.int .u8))).sz = 1 from rfl, Nat.mul_one] at aK
       replace aK := Option.some.inj (aK.symm.trans aQ)
       injection aK with hva_ hvn_ hvc_
       rw [hva_] at aS
       rw [hvc_] at aO
       have aW := q_ (show Kd.V (Kd.int .u8) 5 _ w.heap.size _ _ (rd_L9 aF aB) from Kd.V_mk aO aS)
       clear hva_ hvn_ hvc_ aS aO
       clear bR cL
       have aM := Aside0.mk bI
       have dP := Aside0.mk bG
       clear bI bG
       replace bZ := eq_true bZ
       replace bX := eq_true bX
       obtain ⟨iB, hY, eO⟩ := Kd.N_slice aE.out
       (first | subst eO | (injection eO with cZ eD cY; have eC := cZ.symm; have eB := cY.symm; clear cZ eD cY; subst eC; subst eB))
       have bY : 0 ≤ (aB : Int) := od_
       have bW : aB < (bA.length : Int) := od_
       obtain ⟨dA, aX, bD, eE, aP, bF, bH⟩ := at_L9 (Kd.N_reads' aE.out).2.2 aB bY bW
       cases eE
       obtain ⟨eT, cK, cM, bQ⟩ := Kd.N_get aE.out [] aB bY (by first | exact bW | exact od_ | (have e_ := (Kd.N_reads' aE.out).1; omega))
       obtain ⟨dH, dF, rfl, aN, aR⟩ := Kd.FK_slice_open cM
       have aJ := bQ 0 _ rfl
       rw [Nat.add_zero, show ((Kd.slice 5 (Kd.int .u8))).sz = 1 from rfl, Nat.mul_one] at aJ
       replace aJ := Option.some.inj (aJ.symm.trans aP)
       injection aJ with hva_ hvn_ hvc_
       rw [hva_] at aR
       rw [hvc_] at aN
       have aV := q_ (show Kd.V (Kd.int .u8) 5 _ w.heap.size _ _ (rd_L9 bA aB) from Kd.V_mk aN aR)
       clear hva_ hvn_ hvc_ aR aN
       clear bQ cK
       have aL := Aside0.mk bH
       have dO := Aside0.mk bF
       clear bH bF
       replace bY := eq_true bY
       replace bW := eq_true bW
       have gV := Kd.C_string (P := Try.prog) (A := aY) (c := bE) Try.underlying22 Try.underlying5 Try.underlying9 (by repeat (first | (with_reducible exact aM.out) | (with_reducible refine Kd.C_alloc ?_ _) | (with_reducible refine Kd.C_drewN ?_ _) | (with_reducible refine Kd.C_drew ?_) | exact aM.out))
       have gU := Kd.C_string (P := Try.prog) (A := aX) (c := bD) Try.underlying22 Try.underlying5 Try.underlying9 (by repeat (first | (with_reducible exact aL.out) | (with_reducible refine Kd.C_alloc ?_ _) | (with_reducible refine Kd.C_drewN ?_ _) | (with_reducible refine Kd.C_drew ?_) | exact aL.out))
       refine sr_ (fun w' => (w'.cell? (dB.add (aB).toNat) = some (.slice aY (rd_L9 aF aB).length bE) ∧ w'.cell? (dA.add (aB).toNat) = some (.slice aX (rd_L9 bA aB).length bD)) ∧ Kd.C (Kd.int .u8) w' aY (rd_L9 aF aB).length (rd_L9 aF aB) ∧ Kd.C (Kd.int .u8) w' aX (rd_L9 bA aB).length (rd_L9 bA aB)) [] impl_PartAt.tab11 impl_PartAt.bits11 ⟨⟨aQ, aP⟩, Kd.C_drew aM.out, Kd.C_drew aL.out⟩ (fun hHeld HT_ HW_ => ?_)
       generalize wr.drew = iW at aD aE aA HB aW aV aM aL aQ aP hHeld ⊢
       refine p_ 0 63 HT_ ?_; refine p_ 1 64 HT_ ?_; refine p_ 2 65 HT_ ?_; refine p_ 5 68 HT_ ?_; refine p_ 6 69 HT_ ?_; refine p_ 7 70 HT_ ?_; refine k_ 3 66 HT_ HW_ hHeld ?_
       refine take_ (i := 4) (N := some 67) (v := ?_) (a' := ?_) (bq_ 8 4) rfl rfl (take_ofW HT_.out HW_.out (by kernel_rfl)) (fun _ _ _ h => h) (Or.inl ⟨by rfl, ?_⟩) hHeld ?_ ?_
       rotate_left
       · rintro w' ⟨_, sc⟩
         have hcv_ := Kd.C_string (P := Try.prog) (A := aY) (c := bE) Try.underlying22 Try.underlying5 Try.underlying9 sc.1
         go_simp
         with_reducible rfl
       rotate_left
       · simp only [Act.put, sa_, sz_, ss_, i64_w, i32_w]; rfl
       refine p_ 10 18 HT_ ?_; refine k_ 8 71 HT_ HW_ hHeld ?_
       refine take_ (i := 9) (N := some 72) (v := ?_) (a' := ?_) (bq_ 11 1) rfl rfl (take_ofW HT_.out HW_.out (by kernel_rfl)) (fun _ _ _ h => h) (Or.inl ⟨by rfl, ?_⟩) hHeld ?_ ?_
       rotate_left
       · rintro w' ⟨_, sc⟩
         have hcv_ := Kd.C_string (P := Try.prog) (A := aX) (c := bD) Try.underlying22 Try.underlying5 Try.underlying9 sc.2
         go_simp
         with_reducible rfl
       rotate_left
       · simp only [Act.put, sa_, sz_, ss_, i64_w, i32_w]; rfl
       refine p_ 11 19 HT_ ?_
       refine done_ (done_of HT_.out (by kernel_rfl)) ?_
       try go_wp2_with (first | ((with_reducible refine gate_callee (f := 60) rfl ?_); refine gl_ (some 75) Try.func60 #[.string (strOfNums (rd_L9 aF aB)), .string (strOfNums (rd_L9 bA aB))] rfl al_ ?_; (with_reducible refine (impl_isFull.calls k2 (strOfNums (rd_L9 aF aB)) (strOfNums (rd_L9 bA aB)) false _ hO.out).mono ?_); rintro e iV ⟨rfl, hb⟩; refine ⟨_, rfl, ?_⟩; replace aD := q_ (Kd.N_below (by (with_reducible repeat (first | apply Kd.N_alloc | apply Kd.N_drewN | apply Kd.N_drew)); exact aD.out) hb); replace aE := q_ (Kd.N_below (by (with_reducible repeat (first | apply Kd.N_alloc | apply Kd.N_drewN | apply Kd.N_drew)); exact aE.out) hb); replace aW := q_ (Kd.V_below (by (with_reducible repeat (first | apply Kd.V_alloc | apply Kd.V_drewN | apply Kd.V_drew)); exact aW.out) hb); replace aV := q_ (Kd.V_below (by (with_reducible repeat (first | apply Kd.V_alloc | apply Kd.V_drewN | apply Kd.V_drew)); exact aV.out) hb); replace aA := q_ (bb_ aA.out hb); replace HB := q_ (below_step (bs_ HB.out aC.out) hb); (try clear hb)))
       go_roundg k2
       case measure => have := hN.out; have := hM.out; omega
       case rel => exact ⟨(wrap64 (aB + 1)), rs_, H', ⟨by have := hN.out; have := hM.out; omega⟩, ⟨by (with_reducible repeat (first | apply Kd.N_alloc | apply Kd.N_drewN | apply Kd.N_drew)); exact aD.out⟩, ⟨by (with_reducible repeat (first | apply Kd.N_alloc | apply Kd.N_drewN | apply Kd.N_drew)); exact aE.out⟩, ⟨bk_ aA.out⟩, ⟨bs_ HB.out aC.out⟩⟩
    ·
     replace fV := Bool.eq_false_iff.mpr fV
     subst fV
     rw [if_neg (show ¬ (false = true) by decide)] at H
     simp only [Option.some.injEq, Prod.mk.injEq] at H
     obtain ⟨rfl, rfl, rfl⟩ := H
     obtain ⟨fP, fO, fJ, fI⟩ := bx2_ aA.out
     go_wp2_with (first | ((with_reducible refine gate_callee (f := 59) rfl ?_); refine gl_ (some 36) Try.func59 #[.agg #[.string bC, .string bB], .int .i64 a2, .int .i64 a3, .slice A4 l4.length c4] rfl al_ ?_; (with_reducible refine (impl_wayTo.calls dE bC bB a2 a3 _ _ l4 aF false _ ?side1 ?side2 gA.out).mono ?_); (case side1 => exact kc_ (Kd.C_below gN.out HB.out)); (case side2 => exact gP.out); rintro e iM ⟨dQ, rfl, bJ, hb⟩; refine ⟨_, rfl, ?_⟩; have aG := q_ (Kd.N_lower (Kd.N_mono (ok' := fun k_ => k_ ≠ aZ) bJ (fun k_ hk_ => (Kd.freshB (g := aZ) (o := .cells #[.string bC, .string bB] 45 (0, 0)) (bk_ aA.out) k_ hk_))) (below_size (bs_ HB.out aC.out))); replace aA := q_ (bb_ aA.out hb); replace HB := q_ (below_step (bs_ HB.out aC.out) hb); (try clear hb); (try clear bJ)))
     go_ret3
     exact ⟨rf_, bs_ HB.out aC.out⟩
end Go.Proofs.Ytgmfhchhbidlnaa.P
