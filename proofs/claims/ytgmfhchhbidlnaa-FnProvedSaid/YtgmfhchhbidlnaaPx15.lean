import Derived.Test.YtgmfhchhbidlnaaStr
import Derived.Test.YtgmfhchhbidlnaaPx0
import Derived.Test.YtgmfhchhbidlnaaPx1
import Derived.Test.YtgmfhchhbidlnaaPx6
import Derived.Test.YtgmfhchhbidlnaaPx10
import Derived.Test.YtgmfhchhbidlnaaPx14
namespace Go.Proofs.Ytgmfhchhbidlnaa.P
open Go.RowKit Go.Proofs.YtgmfhchhbidlnaaW.PrintWords Go.Proofs.YtgmfhchhbidlnaaW.PrintLast Go.Proofs.YtgmfhchhbidlnaaW.PrintMore
attribute [local go_sem] max2_int min2_int max_two min_two max_three min_three max_four min_four
set_option linter.unusedVariables false
set_option maxHeartbeats 8000000
set_option maxRecDepth 100000
set_option linter.unusedSimpArgs false
attribute [local go_sem high] eqA45
def impl_pathOf.f : Nat → List (S45) → Int → Option (List ByteArray)
 | 0, _, _ => none
 | k + 1, l0, a1 => if (l0.length : Int) = 1 then (some ([] : List ByteArray)) else ((impl_half.f k (l0.length : Int)).bind fun aA => (if a1 < aA then (if 0 ≤ aA then (if aA ≤ (l0.length : Int) then ((impl_pathOf.f k (l0.take (aA : Int).toNat) a1).bind fun aC => ((impl_innerOf.f k (l0.drop (aA : Int).toNat)).bind fun aE => (if aC.length < 8796093022208 then (some (aC ++ [aE])) else (none)))) else (none)) else (none)) else (if 0 ≤ aA then (if aA ≤ (l0.length : Int) then ((impl_pathOf.f k (l0.drop (aA : Int).toNat) (wrap64 (a1 - aA))).bind fun aB => ((impl_innerOf.f k (l0.take (aA : Int).toNat)).bind fun aD => (if aB.length < 8796093022208 then (some (aB ++ [aD])) else (none)))) else (none)) else (none))))
def impl_pathOf.T5 : Bool × List (List Nat × List Nat) := (true, [([], []), ([], []), ([0, 1], [0, 1]), ([], []), ([2, 3], [2, 3]), ([], []), ([], []), ([5, 6], [5, 6]), ([7, 4], [7]), ([8], [8]), ([4, 9, 8], [4, 9]), ([10, 10, 0, 1, 2, 3, 4, 5, 6, 7, 8, 9, 10], [10])])
def impl_pathOf.B5 : List Nat := [0, 0, 3, 0, 15, 0, 0, 96, 255, 511, 1023, 2047]
theorem impl_pathOf.tab5 : rtab .any (opsOf Try.f26 5) = impl_pathOf.T5 := by kernel_rfl
theorem impl_pathOf.bits5 : waitsOk impl_pathOf.T5.2 impl_pathOf.B5 = true := by kernel_rfl
def impl_pathOf.T6 : Bool × List (List Nat × List Nat) := (true, [([], []), ([], []), ([0, 1], [0, 1]), ([], []), ([], []), ([3, 4], [3, 4]), ([2, 5], [2, 5]), ([], []), ([], []), ([7, 8], [7, 8]), ([9, 6], [9]), ([10], [10]), ([6, 11, 10], [6, 11]), ([12, 12, 0, 1, 2, 3, 4, 5, 6, 7, 8, 9, 10, 11, 12], [12])])
def impl_pathOf.B6 : List Nat := [0, 0, 3, 0, 0, 24, 63, 0, 0, 384, 1023, 2047, 4095, 8191]
theorem impl_pathOf.tab6 : rtab .any (opsOf Try.f26 6) = impl_pathOf.T6 := by kernel_rfl
theorem impl_pathOf.bits6 : waitsOk impl_pathOf.T6.2 impl_pathOf.B6 = true := by kernel_rfl
theorem impl_pathOf.calls (k : Nat) : ∀ (A0 : Option Addr) (c0 : Nat) (l0 : List (S45)) (a1 : Int) (r : List ByteArray) (w : World) (dI : Kd.C k45 w A0 l0.length l0) (dJ : l0.length ≤ c0) (h : impl_pathOf.f k l0 a1 = some r),
 Calls Try.prog 26 #[.slice A0 l0.length c0, .int .i64 a1] w fun e w' => ∃ v0_ : Value, e = .returned (v0_) ∧ Kd.R Kd.string 9 w' w.heap.size (fun _ => True) v0_ r ∧ Below w.heap.size w w' := by
 induction k using Nat.strongRecOn with
 | _ k ih =>
 intro A0 c0 l0 a1 r w dI dJ h
 cases k with
 | zero => exact absurd h (by simp [impl_pathOf.f])
 | succ k =>
 simp only [impl_pathOf.f] at h
 have cY := Aside0.mk dI
 have cZ := Aside0.mk dJ
 clear dI dJ
 have HB := q_ (Below.refl w.heap.size w)
 have H : (if (l0.length : Int) = 1 then (some ([] : List ByteArray)) else ((impl_half.f k (l0.length : Int)).bind fun aA => (if a1 < aA then (if 0 ≤ aA then (if aA ≤ (l0.length : Int) then ((impl_pathOf.f k (l0.take (aA : Int).toNat) a1).bind fun aD => ((impl_innerOf.f k (l0.drop (aA : Int).toNat)).bind fun aG => (if aD.length < 8796093022208 then (some (aD ++ [aG])) else (none)))) else (none)) else (none)) else (if 0 ≤ aA then (if aA ≤ (l0.length : Int) then ((impl_pathOf.f k (l0.drop (aA : Int).toNat) (wrap64 (a1 - aA))).bind fun aC => ((impl_innerOf.f k (l0.take (aA : Int).toNat)).bind fun aE => (if aC.length < 8796093022208 then (some (aC ++ [aE])) else (none)))) else (none)) else (none))))) = some r := h
 clear h
 by_cases c3 : (l0.length : Int) = 1
 ·
  rw [if_pos c3] at H
  have dN := beq_iff_eq.mpr c3
  have dM := bne_eq_false_iff_eq.mpr c3
  clear c3
  obtain rfl := Option.some.inj H
  go_enter Try.func26, Try.ntmps26
  go_wp2
  go_ret
  exact ⟨_, rf_, by first | exact Kd.R_nil _ _ _ _ _ | exact Kd.N_nil _ _ _ _ _ | exact Kd.V_nil _ _ _ _ _ | exact Kd.Q_nil _ _ _ _ _ | exact Kd.S_nil _ _ _ _ _, be_ HB.out⟩
 ·
  rw [if_neg c3] at H
  have dN := beq_eq_false_iff_ne.mpr c3
  have dM := bne_iff_ne.mpr c3
  obtain ⟨aA, A4, H⟩ := bo_ H
  by_cases c5 : a1 < aA
  ·
   rw [if_pos c5] at H
   have dL := decide_eq_true c5
   clear c5
   obtain ⟨c6, H⟩ := ip_ H
   have eN := eq_true c6
   have eM : decide (0 ≤ aA) = true := decide_eq_true c6
   clear c6
   obtain ⟨c7, H⟩ := ip_ H
   have eL := eq_true c7
   have eK : decide (aA ≤ (l0.length : Int)) = true := decide_eq_true c7
   clear c7
   obtain ⟨aU, bA⟩ : ∃ y_ : List (S45), y_ = (l0.take (aA : Int).toNat) := ⟨_, rfl⟩
   replace H : ((impl_pathOf.f k aU a1).bind fun aD => ((impl_innerOf.f k (l0.drop (aA : Int).toNat)).bind fun aG => (if aD.length < 8796093022208 then (some (aD ++ [aG])) else (none)))) = some r := ry_ bA H
   have bQ := Aside0.mk bA
   clear bA
   obtain ⟨aD, A8, H⟩ := bo_ H
   have eJ := eq_true (od_ : 0 ≤ aA)
   have dY := eq_true (od_ : aA ≤ (l0.length : Int))
   obtain ⟨aK, aZ⟩ : ∃ y_ : List (S45), y_ = (l0.drop (aA : Int).toNat) := ⟨_, rfl⟩
   replace H : ((impl_innerOf.f k aK).bind fun aG => (if aD.length < 8796093022208 then (some (aD ++ [aG])) else (none))) = some r := ry_ aZ H
   have bP := Aside0.mk aZ
   clear aZ
   obtain ⟨aG, eW, H⟩ := bo_ H
   obtain ⟨cR, H⟩ := ia_ H
   obtain ⟨eC, aY⟩ : ∃ y_ : List ByteArray, y_ = (aD ++ [aG]) := ⟨_, rfl⟩
   rw [← aY] at H
   have cP := Aside0.mk aY
   clear aY
   obtain rfl := Option.some.inj H
   go_enter Try.func26, Try.ntmps26
   try go_wp2_with (first | ((with_reducible refine gate_callee (f := 50) rfl ?_); refine gl_ (some 11) Try.func50 #[.int .i64 (l0.length : Int)] rfl al_ ?_; (with_reducible refine (impl_half.calls k (l0.length : Int) aA _ A4.out).mono ?_); rintro e w' ⟨rfl, ⟨nd, rfl⟩⟩; refine ⟨_, rfl, ?_⟩))
   replace HB := q_ (below_drew1 (pw_below_drewN HB.out nd))
   have dF : (aA : Int) ≤ ((l0.length : Int) : Int) := od_
   obtain ⟨eI, bM, _, cI, _⟩ := info_parts info45
   have aN : l0.length ≤ c0 := cZ.out
   have cN : Kd.C k45 _ A0 l0.length l0 := cY.out
   have cC := cut_to (P := Try.prog) 24 45 .i64 Try.underlying24 bM A0 l0.length c0 aA od_ dF aN
   have bY := Kd.C_take (m := (aA : Int).toNat) cN (by omega)
   have bW : aU.length = (aA : Int).toNat := (by rw [bQ.out, List.length_take]; omega)
   rw [← bQ.out] at bY
   rw [← bW] at cC
   have bU := Aside0.mk bY
   have cX := q_ (show aU.length ≤ c0 from by omega)
   clear bY cN aN bM cI
   have eR := Aside0.mk bW
   clear bW
   replace dF := eq_true dF
   have dE : (aA : Int) ≤ ((l0.length : Int) : Int) := od_
   obtain ⟨eH, bL, _, bI, _⟩ := info_parts info45
   have aI : l0.length ≤ c0 := cZ.out
   have cM : Kd.C k45 _ A0 l0.length l0 := cY.out
   have dH : (0 : Int) ≤ (aA : Int) := od_
   have cB := cut_from (P := Try.prog) 24 45 .i64 Try.underlying24 bL 2 bI A0 l0.length c0 aA dH dE
   have bC := Kd.C_drop (m := (aA : Int).toNat) (c := c0) cM (by omega) aI
   obtain ⟨eA, bG⟩ : ∃ A1, A1 = (if c0 = (aA : Int).toNat then A0 else (A0 : Option Addr).map (·.add ((aA : Int).toNat * 2))) := ⟨_, rfl⟩
   obtain ⟨dX, cE⟩ : ∃ c1, c1 = c0 - (aA : Int).toNat := ⟨_, rfl⟩
   have bE : aK.length = l0.length - (aA : Int).toNat := (by rw [bP.out, List.length_drop] <;> omega)
   rw [show (l0).drop (aA : Int).toNat = aK from bP.out.symm] at bC
   replace bC : Kd.C k45 _ eA aK.length aK := (by rw [bG]; exact bC)
   rw [← bE, ← bG, ← cE] at cB
   have bT := Aside0.mk bC
   have cW := q_ (show aK.length ≤ dX from by rw [bE, cE]; exact Nat.sub_le_sub_right aI _)
   clear bC cM aI bL bI cE
   have eQ := Aside0.mk bE
   have eT := Aside0.mk bG
   clear bE bG
   replace dE := eq_true dE
   refine sr_ (fun w' => True) [] impl_pathOf.tab5 impl_pathOf.bits5 trivial (fun hD hT hW => ?_)
   generalize (World.drewN w nd).drew = fD at HB bU bT hD ⊢
   refine p_ 0 15 hT ?_; refine p_ 1 16 hT ?_; refine p_ 2 17 hT ?_; refine p_ 3 18 hT ?_; refine p_ 5 20 hT ?_; refine p_ 6 21 hT ?_; refine p_ 7 22 hT ?_
   refine oc_ 4 19 (bq_ 8 4) hT Try.func26 #[.slice A0 aU.length c0, .int .i64 a1] ?_
   with_reducible refine (ih k (by omega) _ _ aU a1 aD _ ?side1 ?side2 A8.out).mono ?_
   (case side1 => exact kc_ (Kd.C_below bU.out HB.out))
   (case side2 => exact cX.out)
   rintro e w16 ⟨dB, rfl, cJ, hb⟩
   refine ⟨_, rfl, ?_⟩
   have aR := q_ (Kd.R_lower cJ (below_size (be_ HB.out)))
   replace HB := q_ (below_step (be_ HB.out) hb)
   (try clear hb)
   (try clear dK)
   (try clear hk)
   (try clear hi)
   (try clear cJ)
   refine ⟨trivial, fun hD => nm_ ?_⟩
   refine oc_ 8 23 (bq_ 9 3) hT Try.func47 #[.slice eA aK.length dX] ?_
   with_reducible refine (impl_innerOf.calls k _ _ aK aG _ ?side1 ?side2 eW.out).mono ?_
   (case side1 => exact kc_ (Kd.C_below bT.out HB.out))
   (case side2 => exact cW.out)
   rintro e fC ⟨rfl, hb⟩
   refine ⟨_, rfl, ?_⟩
   replace aR := q_ (Kd.R_below (kr_ aR.out) hb)
   replace HB := q_ (below_step (be_ HB.out) hb)
   (try clear hb)
   (try clear dK)
   (try clear hk)
   (try clear hi)
   refine ⟨trivial, fun hD => nm_ ?_⟩
   refine on_ 9 (some 24) (bq_ 10 2) hT (fun K hK => ?_)
   refine value_ (w1 := ?_) (v := ?_) (by rfl) rfl ?_ ?_
   rotate_left 2
   · go_simp
     constructor
     · rfl
     · rfl
   refine hK.out _ _ trivial (fun hD => ?_)
   clear hK K
   refine nm_ ?_
   refine on_ 10 (some 25) (bq_ 11 1) hT (fun K hK => ?_)
   refine Kd.R_append_step Kd.string (w0 := w) w.heap.size (by rfl) (.tmp 19) (.tmp 24) 50 9 (.string ⟨#[]⟩) 16 rfl Try.underlying50 info9 rfl (by decide) (by omega) dB aD aG [.string aG] (fun _ => True) (fun _ => False) rfl rfl ?aP (fun _ hk => hk.elim) ?aF ?aO ?aB ?aS ?aL ?_
   (case aP => exact rfl)
   (case aB => exact (be_ HB.out))
   (case aF => exact (fun _ _ => trivial))
   (case aO => exact (kr_ aR.out))
   (case aS => exact (below_size (be_ HB.out)))
   (case aL => have := cR.out; omega)
   intro eE fB ho hb hg hat
   rw [← cP.out] at ho
   have cG := q_ (hb)
   have cF := q_ (ho)
   clear HB
   clear aR
   have HB := cG
   have cT := cF
   clear cG cF
   clear ho hb hg hat
   refine hK.out _ _ trivial (fun hD => ?_)
   clear hK K
   refine nm_ ?_
   refine p_ 11 4 hT ?_
   refine done_ (done_of hT.out (by kernel_rfl)) ?_
   try go_wp2
   go_ret
   exact ⟨_, rf_, kr_ cT.out, be_ HB.out⟩
  ·
   rw [if_neg c5] at H
   have dL := decide_eq_false c5
   clear c5
   obtain ⟨dP, H⟩ := ip_ H
   have dW := eq_true dP
   have dV : decide (0 ≤ aA) = true := decide_eq_true dP
   clear dP
   obtain ⟨dO, H⟩ := ip_ H
   have dU := eq_true dO
   have dT : decide (aA ≤ (l0.length : Int)) = true := decide_eq_true dO
   clear dO
   obtain ⟨aJ, aX⟩ : ∃ y_ : List (S45), y_ = (l0.drop (aA : Int).toNat) := ⟨_, rfl⟩
   replace H : ((impl_pathOf.f k aJ (wrap64 (a1 - aA))).bind fun aC => ((impl_innerOf.f k (l0.take (aA : Int).toNat)).bind fun aE => (if aC.length < 8796093022208 then (some (aC ++ [aE])) else (none)))) = some r := ry_ aX H
   have bO := Aside0.mk aX
   clear aX
   obtain ⟨aC, eV, H⟩ := bo_ H
   have dS := eq_true (od_ : 0 ≤ aA)
   have dR := eq_true (od_ : aA ≤ (l0.length : Int))
   obtain ⟨aT, aW⟩ : ∃ y_ : List (S45), y_ = (l0.take (aA : Int).toNat) := ⟨_, rfl⟩
   replace H : ((impl_innerOf.f k aT).bind fun aE => (if aC.length < 8796093022208 then (some (aC ++ [aE])) else (none))) = some r := ry_ aW H
   have bN := Aside0.mk aW
   clear aW
   obtain ⟨aE, eU, H⟩ := bo_ H
   obtain ⟨cQ, H⟩ := ia_ H
   obtain ⟨eB, aV⟩ : ∃ y_ : List ByteArray, y_ = (aC ++ [aE]) := ⟨_, rfl⟩
   rw [← aV] at H
   have cO := Aside0.mk aV
   clear aV
   obtain rfl := Option.some.inj H
   go_enter Try.func26, Try.ntmps26
   try go_wp2_with (first | ((with_reducible refine gate_callee (f := 50) rfl ?_); refine gl_ (some 11) Try.func50 #[.int .i64 (l0.length : Int)] rfl al_ ?_; (with_reducible refine (impl_half.calls k (l0.length : Int) aA _ A4.out).mono ?_); rintro e w' ⟨rfl, ⟨nd, rfl⟩⟩; refine ⟨_, rfl, ?_⟩))
   replace HB := q_ (below_drew1 (pw_below_drewN HB.out nd))
   have dD : (aA : Int) ≤ ((l0.length : Int) : Int) := od_
   obtain ⟨eG, bK, _, bH, _⟩ := info_parts info45
   have aH : l0.length ≤ c0 := cZ.out
   have cL : Kd.C k45 _ A0 l0.length l0 := cY.out
   have dG : (0 : Int) ≤ (aA : Int) := od_
   have cA := cut_from (P := Try.prog) 24 45 .i64 Try.underlying24 bK 2 bH A0 l0.length c0 aA dG dD
   have bB := Kd.C_drop (m := (aA : Int).toNat) (c := c0) cL (by omega) aH
   obtain ⟨dZ, bF⟩ : ∃ A1, A1 = (if c0 = (aA : Int).toNat then A0 else (A0 : Option Addr).map (·.add ((aA : Int).toNat * 2))) := ⟨_, rfl⟩
   obtain ⟨dQ, cD⟩ : ∃ c1, c1 = c0 - (aA : Int).toNat := ⟨_, rfl⟩
   have bD : aJ.length = l0.length - (aA : Int).toNat := (by rw [bO.out, List.length_drop] <;> omega)
   rw [show (l0).drop (aA : Int).toNat = aJ from bO.out.symm] at bB
   replace bB : Kd.C k45 _ dZ aJ.length aJ := (by rw [bF]; exact bB)
   rw [← bD, ← bF, ← cD] at cA
   have bS := Aside0.mk bB
   have cV := q_ (show aJ.length ≤ dQ from by rw [bD, cD]; exact Nat.sub_le_sub_right aH _)
   clear bB cL aH bK bH cD
   have eP := Aside0.mk bD
   have eS := Aside0.mk bF
   clear bD bF
   replace dD := eq_true dD
   have dC : (aA : Int) ≤ ((l0.length : Int) : Int) := od_
   obtain ⟨eF, bJ, _, cH, _⟩ := info_parts info45
   have aM : l0.length ≤ c0 := cZ.out
   have cK : Kd.C k45 _ A0 l0.length l0 := cY.out
   have bZ := cut_to (P := Try.prog) 24 45 .i64 Try.underlying24 bJ A0 l0.length c0 aA od_ dC aM
   have bX := Kd.C_take (m := (aA : Int).toNat) cK (by omega)
   have bV : aT.length = (aA : Int).toNat := (by rw [bN.out, List.length_take]; omega)
   rw [← bN.out] at bX
   rw [← bV] at bZ
   have bR := Aside0.mk bX
   have cU := q_ (show aT.length ≤ c0 from by omega)
   clear bX cK aM bJ cH
   have eO := Aside0.mk bV
   clear bV
   replace dC := eq_true dC
   refine sr_ (fun w' => True) [] impl_pathOf.tab6 impl_pathOf.bits6 trivial (fun hD hT hW => ?_)
   generalize (World.drewN w nd).drew = fA at HB bS bR hD ⊢
   refine p_ 0 26 hT ?_; refine p_ 1 27 hT ?_; refine p_ 2 28 hT ?_; refine p_ 3 29 hT ?_; refine p_ 4 30 hT ?_; refine p_ 5 31 hT ?_; refine p_ 7 33 hT ?_; refine p_ 8 34 hT ?_; refine p_ 9 35 hT ?_
   refine oc_ 6 32 (bq_ 10 4) hT Try.func26 #[.slice dZ aJ.length dQ, .int .i64 (wrap64 (a1 - aA))] ?_
   with_reducible refine (ih k (by omega) _ _ aJ (wrap64 (a1 - aA)) aC _ ?side1 ?side2 eV.out).mono ?_
   (case side1 => exact kc_ (Kd.C_below bS.out HB.out))
   (case side2 => exact cV.out)
   rintro e eZ ⟨dA, rfl, cJ, hb⟩
   refine ⟨_, rfl, ?_⟩
   have aQ := q_ (Kd.R_lower cJ (below_size (be_ HB.out)))
   replace HB := q_ (below_step (be_ HB.out) hb)
   (try clear hb)
   (try clear dK)
   (try clear hk)
   (try clear hi)
   (try clear cJ)
   refine ⟨trivial, fun hD => nm_ ?_⟩
   refine oc_ 10 36 (bq_ 11 3) hT Try.func47 #[.slice A0 aT.length c0] ?_
   with_reducible refine (impl_innerOf.calls k _ _ aT aE _ ?side1 ?side2 eU.out).mono ?_
   (case side1 => exact kc_ (Kd.C_below bR.out HB.out))
   (case side2 => exact cU.out)
   rintro e eY ⟨rfl, hb⟩
   refine ⟨_, rfl, ?_⟩
   replace aQ := q_ (Kd.R_below (kr_ aQ.out) hb)
   replace HB := q_ (below_step (be_ HB.out) hb)
   (try clear hb)
   (try clear dK)
   (try clear hk)
   (try clear hi)
   refine ⟨trivial, fun hD => nm_ ?_⟩
   refine on_ 11 (some 37) (bq_ 12 2) hT (fun K hK => ?_)
   refine value_ (w1 := ?_) (v := ?_) (by rfl) rfl ?_ ?_
   rotate_left 2
   · go_simp
     constructor
     · rfl
     · rfl
   refine hK.out _ _ trivial (fun hD => ?_)
   clear hK K
   refine nm_ ?_
   refine on_ 12 (some 38) (bq_ 13 1) hT (fun K hK => ?_)
   refine Kd.R_append_step Kd.string (w0 := w) w.heap.size (by rfl) (.tmp 32) (.tmp 37) 50 9 (.string ⟨#[]⟩) 16 rfl Try.underlying50 info9 rfl (by decide) (by omega) dA aC aE [.string aE] (fun _ => True) (fun _ => False) rfl rfl ?aP (fun _ hk => hk.elim) ?aF ?aO ?aB ?aS ?aL ?_
   (case aP => exact rfl)
   (case aB => exact (be_ HB.out))
   (case aF => exact (fun _ _ => trivial))
   (case aO => exact (kr_ aQ.out))
   (case aS => exact (below_size (be_ HB.out)))
   (case aL => have := cQ.out; omega)
   intro eD eX ho hb hg hat
   rw [← cO.out] at ho
   have cG := q_ (hb)
   have cF := q_ (ho)
   clear HB
   clear aQ
   have HB := cG
   have cS := cF
   clear cG cF
   clear ho hb hg hat
   refine hK.out _ _ trivial (fun hD => ?_)
   clear hK K
   refine nm_ ?_
   refine p_ 13 4 hT ?_
   refine done_ (done_of hT.out (by kernel_rfl)) ?_
   try go_wp2
   go_ret
   exact ⟨_, rf_, kr_ cS.out, be_ HB.out⟩
mutual
def impl_ProveBetween.j1 : Nat → List (S45) → ByteArray → ByteArray → Int → Option (Int × Int × (List (S52)))
 | 0, _, _, _, _ => none
 | k + 1, x0, x1, x2, x7 => impl_ProveBetween.l1 k x0 x1 x2 x7 x7
def impl_ProveBetween.j3 : Nat → List (S45) → Int → Int → Option (Int × Int × (List (S52)))
 | 0, _, _, _ => none
 | k + 1, x0, x7, x8 => impl_ProveBetween.l2 k x0 (mx (wrap64 (x7 - 1)) 0) (mn (wrap64 (x8 + 1)) (x0.length : Int)) (mx (wrap64 (x7 - 1)) 0) (x0.length : Int) 0 ([] : List (S52))
def impl_ProveBetween.l2 : Nat → List (S45) → Int → Int → Int → Int → Int → List (S52) → Option (Int × Int × (List (S52)))
 | 0, _, _, _, _, _, _, _ => none
 | k + 1, x0, x7, x8, aD, aB, aC, aA => if aD < x8 then (if 0 ≤ aD then (if aD < (x0.length : Int) then ((impl_pathOf.f k x0 aD).bind fun aE => (if aA.length < 2513169434916 then (impl_ProveBetween.l2 k x0 x7 x8 (wrap64 (aD + 1)) aB aC (aA ++ [(⟨(⟨(rd_T45 x0 aD).f0, (rd_T45 x0 aD).f1⟩ : S45), aE⟩ : S52)])) else (none))) else (none)) else (none)) else (if (aA.length : Int) > 0 then (some (aB, x7, aA)) else (some (aB, aC, aA)))
def impl_ProveBetween.l1 : Nat → List (S45) → ByteArray → ByteArray → Int → Int → Option (Int × Int × (List (S52)))
 | 0, _, _, _, _, _ => none
 | k + 1, x0, x1, x2, x7, x8 => if x8 < (x0.length : Int) then (if 0 ≤ x8 then ((impl_isBetween.f ((rd_T45 x0 x8).f0) x1 x2).bind fun aF => (if aF = true then (impl_ProveBetween.l1 k x0 x1 x2 x7 (wrap64 (x8 + 1))) else (impl_ProveBetween.j3 k x0 x7 x8))) else (none)) else (impl_ProveBetween.j3 k x0 x7 x8)
def impl_ProveBetween.l0 : Nat → List (S45) → ByteArray → ByteArray → Int → Option (Int × Int × (List (S52)))
 | 0, _, _, _, _ => none
 | k + 1, x0, x1, x2, x7 => if x7 < (x0.length : Int) then (if 0 ≤ x7 then (if (Op.bytesLess (((rd_T45 x0 x7).f0).toList) x1.toList) = true then (impl_ProveBetween.l0 k x0 x1 x2 (wrap64 (x7 + 1))) else (impl_ProveBetween.j1 k x0 x1 x2 x7)) else (none)) else (impl_ProveBetween.j1 k x0 x1 x2 x7)
end
def impl_ProveBetween.f (k : Nat) (l0 : List (S45)) (a1 : ByteArray) (a2 : ByteArray) : Option (Int × Int × (List (S52))) := (impl_PairsOk.f k l0).bind fun aA => (if aA = true then (impl_ProveBetween.l0 k l0 a1 a2 0) else (some (0, 0, ([] : List (S52)))))
def impl_ProveBetween.T15 : Bool × List (List Nat × List Nat) := (true, [([], []), ([0], [0]), ([], []), ([], []), ([2, 3], [2, 3]), ([4], [4]), ([], []), ([], []), ([6, 7], [6, 7]), ([5, 8], [5, 8]), ([9], [9]), ([1, 10, 8], [1, 10]), ([0, 1, 2, 3, 4, 5, 6, 7, 8, 9, 10, 11], []), ([12, 11, 11, 0, 1, 2, 3, 4, 5, 6, 7, 8, 9, 10, 11], [11, 12])])
def impl_ProveBetween.B15 : List Nat := [0, 1, 0, 0, 12, 28, 0, 0, 192, 508, 1020, 2047, 4095, 8191]
theorem impl_ProveBetween.tab15 : rtab .any (opsOf Try.f9 15) = impl_ProveBetween.T15 := by kernel_rfl
theorem impl_ProveBetween.bits15 : waitsOk impl_ProveBetween.T15.2 impl_ProveBetween.B15 = true := by kernel_rfl
theorem impl_ProveBetween.calls (k : Nat) (A0 : Option Addr) (c0 : Nat) (l0 : List (S45)) (a1 : ByteArray) (a2 : ByteArray) (r1 : Int) (r2 : Int) (r3 : List (S52)) (w : World) (fI : Kd.C k45 w A0 l0.length l0) (fQ : l0.length ≤ c0) (h : impl_ProveBetween.f k l0 a1 a2 = some (r1, r2, r3)) :
 Calls Try.prog 9 #[.slice A0 l0.length c0, .string a1, .string a2] w fun e w' => ∃ v2_ : Value, e = .returned (.agg #[.int .i64 r1, .int .i64 r2, v2_]) ∧ Kd.S k52 52 w' w.heap.size (fun _ => True) v2_ r3 ∧ Below w.heap.size w w' := by
 have gD := Try.underlying27
 have gC := Try.underlying45
 have gB := Try.underlying52
 have bN := Aside0.mk fI
 have fD := Aside0.mk fQ
 clear fI fQ
 have HB := q_ (Below.refl w.heap.size w)
 have H := h
 clear h
 unfold impl_ProveBetween.f at H
 obtain ⟨eN, A4, H⟩ := bo_ H
 by_cases c5 : eN = true
 ·
  subst c5
  rw [if_pos rfl] at H
  have fC := Aside0.mk H
  clear H
  go_enter Try.func9, Try.ntmps9
  go_upto_block 0 with (first | ((with_reducible refine gate_dst (N := 6) rfl ?_); refine box_event rfl (N := 6) rfl (cs := #[.int .i64 0, .int .i64 0, .slice none 0 0]) (t := 27) hr_ ?_; intro aJ hg w7 hbox hb; have aA := q_ (hbox); have aI := ge_ hg (be_ HB.out); replace HB := q_ (below_step (be_ HB.out) hb); clear hb hbox hg) | ((with_reducible refine gate_callee (f := 25) rfl ?_); refine gl_ (some 12) Try.func25 #[.slice A0 l0.length c0] rfl al_ ?_; (with_reducible refine (impl_PairsOk.calls k _ _ l0 true _ ?side1 ?side2 A4.out).mono ?_); (case side1 => exact kc_ (Kd.C_below bN.out HB.out)); (case side2 => exact fD.out); rintro e w8 ⟨rfl, hb⟩; refine ⟨_, rfl, ?_⟩; replace aA := q_ (bb_ aA.out hb); replace HB := q_ (below_step (bs_ HB.out aI.out) hb); (try clear hb)))
  (try simp only [Act.put, sa_, sz_, ss_])
  go_cut [7] (fun v7 wc => ∃ (kq : Nat) (bA : Int), v7 = .int .i64 bA ∧ Aside0 (impl_ProveBetween.j1 kq l0 a1 a2 bA = some (r1, r2, r3)) ∧ Aside0 (kq ≤ k) ∧ Aside0 (wc.heap[aJ]? = some (.cells #[.int .i64 0, .int .i64 0, (.slice none 0 0)] 27 (0, 0))) ∧ Aside0 (Below w.heap.size w wc))
  case first =>
   have H := fC.out
   clear fC
   have H' := Aside0.mk H
   clear H
   go_wp2
   go_loopg [7] k (fun kq v7 w' => ∃ (aU : Int), v7 = .int .i64 aU ∧ Aside0 (impl_ProveBetween.l0 kq l0 a1 a2 aU = some (r1, r2, r3)) ∧ Aside0 (kq ≤ k) ∧ Aside0 (w'.heap[aJ]? = some (.cells #[.int .i64 0, .int .i64 0, (.slice none 0 0)] 27 (0, 0))) ∧ Aside0 (Below w.heap.size w w'))
   case atStart => exact ⟨(0), rs_, H', ⟨Nat.le_refl _⟩, ⟨bk_ aA.out⟩, ⟨bs_ HB.out aI.out⟩⟩
   case round =>
    clear H'
    obtain ⟨aU, rfl, HA, eL, aA, HB⟩ := hrel
    cases gk with
    | zero => exact absurd HA.out (by simp [impl_ProveBetween.l0])
    | succ k1 =>
     have H := HA.out
     clear HA
     simp only [impl_ProveBetween.l0] at H
     by_cases c9 : aU < (l0.length : Int)
     rotate_left
     ·
      rw [if_neg c9] at H
      have bI := decide_eq_false c9
      clear c9
      (first | rw [bI] | (simp only [i64_w, i32_w]; rw [bI]) | skip)
      have H' := Aside0.mk H
      clear H
      go_wp2
      go_meet
      case rel => exact ⟨_, (aU), rs_, H', ⟨by have := eL.out; first | omega | exact Nat.le_refl _⟩, ⟨bk_ aA.out⟩, ⟨bs_ HB.out aI.out⟩⟩
     rw [if_pos c9] at H
     have bI := decide_eq_true c9
     clear c9
     (first | rw [bI] | (simp only [i64_w, i32_w]; rw [bI]) | skip)
     obtain ⟨fU, H⟩ := id_ H
     by_cases bZ : (Op.bytesLess (((rd_T45 l0 aU).f0).toList) a1.toList) = true
     rotate_left
     ·
      rw [if_neg bZ] at H
      have cN : (Op.bytesLess (((rd_T45 l0 aU).f0).toList) a1.toList) = false := by simpa using bZ
      clear bZ
      have H' := Aside0.mk H
      clear H
      obtain ⟨cP, bU, bM, bL, eR, eP⟩ := at2_ HB.out (at_T45 bN.out aU)
      cases bU
      go_wp2
      go_meet
      case rel => exact ⟨_, (aU), rs_, H', ⟨by have := eL.out; first | omega | exact Nat.le_refl _⟩, ⟨bk_ aA.out⟩, ⟨bs_ HB.out aI.out⟩⟩
     rw [if_pos bZ] at H
     have cN : (Op.bytesLess (((rd_T45 l0 aU).f0).toList) a1.toList) = true := bZ
     clear bZ
     have H' := Aside0.mk H
     clear H
     obtain ⟨cP, bU, bM, bL, eR, eP⟩ := at2_ HB.out (at_T45 bN.out aU)
     cases bU
     go_wp2
     go_roundg k1
     case measure => have := eL.out; omega
     case rel => exact ⟨(wrap64 (aU + 1)), rs_, H', ⟨by have := eL.out; omega⟩, ⟨bk_ aA.out⟩, ⟨bs_ HB.out aI.out⟩⟩
  case rest =>
   clear fC
   obtain ⟨kq, bA, rfl, HA, cA, aA, HB⟩ := hcut
   cases kq with
   | zero => exact absurd HA.out (by simp [impl_ProveBetween.j1])
   | succ eS =>
    have H := HA.out
    clear HA
    simp only [impl_ProveBetween.j1] at H
    have bV := Aside0.mk H
    clear H
    go_upto_block 2 with (fail)
    go_cut [8] (fun v8 wc => ∃ (kq : Nat) (aY : Int), v8 = .int .i64 aY ∧ Aside0 (impl_ProveBetween.j3 kq l0 bA aY = some (r1, r2, r3)) ∧ Aside0 (kq ≤ eS) ∧ Aside0 (wc.heap[aJ]? = some (.cells #[.int .i64 0, .int .i64 0, (.slice none 0 0)] 27 (0, 0))) ∧ Aside0 (Below w.heap.size w wc))
    case first =>
     have H := bV.out
     clear bV
     have H' := Aside0.mk H
     clear H
     go_wp2
     go_loopg [8] eS (fun kq v8 w' => ∃ (aX : Int), v8 = .int .i64 aX ∧ Aside0 (impl_ProveBetween.l1 kq l0 a1 a2 bA aX = some (r1, r2, r3)) ∧ Aside0 (kq ≤ eS) ∧ Aside0 (w'.heap[aJ]? = some (.cells #[.int .i64 0, .int .i64 0, (.slice none 0 0)] 27 (0, 0))) ∧ Aside0 (Below w.heap.size w w'))
     case atStart => exact ⟨(bA), rs_, H', ⟨Nat.le_refl _⟩, ⟨bk_ aA.out⟩, ⟨bs_ HB.out aI.out⟩⟩
     case round =>
      clear H'
      obtain ⟨aX, rfl, HA, eK, aA, HB⟩ := hrel
      cases gk with
      | zero => exact absurd HA.out (by simp [impl_ProveBetween.l1])
      | succ k2 =>
       have H := HA.out
       clear HA
       simp only [impl_ProveBetween.l1] at H
       by_cases bY : aX < (l0.length : Int)
       rotate_left
       · rw [if_neg bY] at H
         have bC := decide_eq_false bY
         clear bY
         (first | rw [bC] | (simp only [i64_w, i32_w]; rw [bC]) | skip)
         have H' := Aside0.mk H
         clear H
         go_wp2
         go_meet
         case rel => exact ⟨_, (aX), rs_, H', ⟨by have := cA.out; have := eK.out; first | omega | exact Nat.le_refl _⟩, ⟨bk_ aA.out⟩, ⟨bs_ HB.out aI.out⟩⟩
       rw [if_pos bY] at H
       have bC := decide_eq_true bY
       clear bY
       (first | rw [bC] | (simp only [i64_w, i32_w]; rw [bC]) | skip)
       obtain ⟨fT, H⟩ := id_ H
       obtain ⟨eM, fW, H⟩ := bo_ H
       by_cases eJ : eM = true
       · subst eJ
         rw [if_pos rfl] at H
         have H' := Aside0.mk H
         clear H
         obtain ⟨cO, bT, bK, bJ, eQ, eO⟩ := at2_ HB.out (at_T45 bN.out aX)
         cases bT
         go_wp2_with (first | (go_at_call 21; (with_reducible refine (impl_isBetween.calls ((rd_T45 l0 aX).f0) a1 a2 true _ fW.out).mono ?_); rintro e w' ⟨rfl, ⟨nd, rfl⟩⟩))
         go_roundg k2
         case measure => have := cA.out; have := eK.out; omega
         case rel => exact ⟨(wrap64 (aX + 1)), rs_, H', ⟨by have := cA.out; have := eK.out; omega⟩, ⟨bk_ aA.out⟩, ⟨bs_ HB.out aI.out⟩⟩
       replace eJ := Bool.eq_false_iff.mpr eJ
       subst eJ
       rw [if_neg (show ¬ (false = true) by decide)] at H
       have H' := Aside0.mk H
       clear H
       obtain ⟨cO, bT, bK, bJ, eQ, eO⟩ := at2_ HB.out (at_T45 bN.out aX)
       cases bT
       go_wp2_with (first | (go_at_call 21; (with_reducible refine (impl_isBetween.calls ((rd_T45 l0 aX).f0) a1 a2 false _ fW.out).mono ?_); rintro e w' ⟨rfl, ⟨nd, rfl⟩⟩))
       go_meet
       case rel => exact ⟨_, (aX), rs_, H', ⟨by have := cA.out; have := eK.out; first | omega | exact Nat.le_refl _⟩, ⟨bk_ aA.out⟩, ⟨bs_ HB.out aI.out⟩⟩
    case rest =>
     clear bV
     obtain ⟨kq, aY, rfl, HA, cS, aA, HB⟩ := hcut
     cases kq with
     | zero => exact absurd HA.out (by simp [impl_ProveBetween.j3])
     | succ cB =>
      have H := HA.out
      clear HA
      simp only [impl_ProveBetween.j3] at H
      obtain ⟨bD, aZ⟩ : ∃ j_ : Int, (mx (wrap64 (bA - 1)) 0) = j_ := ⟨_, rfl⟩
      first | rw [aZ] at H | simp only [aZ] at H
      have eV : (if (wrap64 (bA - 1)) < 0 then 0 else (wrap64 (bA - 1))) = bD := aZ
      obtain ⟨bS, bB⟩ : ∃ j_ : Int, (mn (wrap64 (aY + 1)) (l0.length : Int)) = j_ := ⟨_, rfl⟩
      first | rw [bB] at H | simp only [bB] at H
      have eU : (if (l0.length : Int) < (wrap64 (aY + 1)) then (l0.length : Int) else (wrap64 (aY + 1))) = bS := bB
      have H' := Aside0.mk H
      clear H
      go_wp2_with (first | ((with_reducible refine gate_dst (N := 9) rfl ?_); refine box_event rfl (N := 9) rfl (cs := #[.int .i64 0, .int .i64 0, .slice none 0 0]) (t := 27) hr_ ?_; intro aN hg gK hbox hb; have aE := q_ (hbox); have aT := ge_ hg (bs_ HB.out aI.out); replace HB := q_ (below_step (bs_ HB.out aI.out) hb); have aH := q_ ((by rw [hg]; exact Nat.ne_of_lt (blk_lt (g := aJ) (o := .cells #[.int .i64 0, .int .i64 0, .slice none 0 0] 27 (0, 0)) (bk_ aA.out)) : aJ ≠ aN)); have aM := q_ ((by rw [hg]; exact Nat.ne_of_gt (blk_lt (g := aJ) (o := .cells #[.int .i64 0, .int .i64 0, .slice none 0 0] 27 (0, 0)) (bk_ aA.out)) : aN ≠ aJ)); replace aA := q_ (bb_ aA.out hb); clear hb hbox hg; have fO := aM.out; have fL := aH.out; obtain ⟨eI, eH, eG, dQ, dP, dO⟩ := bx3_ aE.out))
      go_loopg [10] cB (fun kq gA w' => ∃ (aG : Int) (aD : List (S52)) (aK : Value), gA = .int .i64 aG ∧ Aside0 (impl_ProveBetween.l2 kq l0 bD bS aG (l0.length : Int) 0 aD = some (r1, r2, r3)) ∧ Aside0 (kq ≤ cB) ∧ Aside0 (Kd.S k52 52 w' w.heap.size (fun _ => True) aK aD) ∧ Aside0 (w'.heap[aJ]? = some (.cells #[.int .i64 0, .int .i64 0, (.slice none 0 0)] 27 (0, 0))) ∧ Aside0 (w'.heap[aN]? = some (.cells #[.int .i64 (l0.length : Int), .int .i64 0, aK] 27 (0, 0))) ∧ Aside0 (Below w.heap.size w w'))
      case atStart => exact ⟨(bD), (([] : List (S52))), (.slice none 0 0), (by first | rfl | (simp; done) | (simp only [← aZ] <;> (first | rfl | simp)) | (simp [*]; done)), H', ⟨Nat.le_refl _⟩, ⟨by first | exact Kd.S_nil _ _ _ _ _ | exact Kd.N_nil _ _ _ _ _ | exact Kd.V_nil _ _ _ _ _ | exact Kd.Q_nil _ _ _ _ _ | exact Kd.R_nil _ _ _ _ _⟩, ⟨by (with_reducible repeat (first | refine blk_drewN ?_ _ | refine blk_drew ?_ | refine blk_alloc ?_ _)); refine blk_far ?_ aH.out _; (with_reducible repeat (first | refine blk_drewN ?_ _ | refine blk_drew ?_ | refine blk_alloc ?_ _)); refine blk_far ?_ aH.out _; (with_reducible repeat (first | refine blk_drewN ?_ _ | refine blk_drew ?_ | refine blk_alloc ?_ _)); refine blk_far ?_ aH.out _; (with_reducible repeat (first | refine blk_drewN ?_ _ | refine blk_drew ?_ | refine blk_alloc ?_ _)); exact aA.out⟩, ⟨by (with_reducible repeat (first | refine blk_drewN ?_ _ | refine blk_drew ?_ | refine blk_alloc ?_ _)); refine blk_put (cs := #[.int .i64 (l0.length : Int), .int .i64 0, .slice none 0 0]) ?_ 2 _ rfl; (with_reducible repeat (first | refine blk_drewN ?_ _ | refine blk_drew ?_ | refine blk_alloc ?_ _)); refine blk_put (cs := #[.int .i64 (l0.length : Int), .int .i64 0, .slice none 0 0]) ?_ 1 _ rfl; (with_reducible repeat (first | refine blk_drewN ?_ _ | refine blk_drew ?_ | refine blk_alloc ?_ _)); refine blk_put (cs := #[.int .i64 0, .int .i64 0, .slice none 0 0]) ?_ 0 _ rfl; (with_reducible repeat (first | refine blk_drewN ?_ _ | refine blk_drew ?_ | refine blk_alloc ?_ _)); exact aE.out⟩, ⟨b2_ HB.out aI.out aT.out⟩⟩
      case round =>
       clear H'
       obtain ⟨aG, aD, aK, rfl, HA, fV, aC, aA, aE, HB⟩ := hrel
       cases gk with
       | zero => exact absurd HA.out (by simp [impl_ProveBetween.l2])
       | succ k3 =>
        have H := HA.out
        clear HA
        simp only [impl_ProveBetween.l2] at H
        by_cases bX : aG < bS
        rotate_left
        · rw [if_neg bX] at H
          have cM := decide_eq_false bX
          clear bX
          by_cases bW : (aD.length : Int) > 0
          rotate_left
          · rw [if_neg bW] at H
            have cL : decide (0 < (aD.length : Int)) = false := decide_eq_false bW
            have cK : decide (0 < aD.length) = false := decide_eq_false (by omega)
            clear bW
            simp only [Option.some.injEq, Prod.mk.injEq] at H
            obtain ⟨rfl, rfl, rfl⟩ := H
            have fM := aM.out
            have fJ := aH.out
            obtain ⟨dZ, dY, dX, dH, dG, dF⟩ := bx3_ aE.out
            obtain ⟨cT, cG, eZ⟩ := Kd.S_slice aC.out
            subst eZ
            obtain ⟨dW, dV, dU, dE, dD, dC⟩ := bx3_ aA.out
            go_wp2
            refine bodyPost_ret (results_cell_row rfl _ _ aJ 27 #[.int .i64 (l0.length : Int), .int .i64 0, .slice cT aD.length cG] (0, 0) _ rfl (by (with_reducible repeat (first | refine blk_drewN ?_ _ | refine blk_drew ?_ | refine blk_alloc ?_ _)); refine blk_put (cs := #[.int .i64 (l0.length : Int), .int .i64 0, .slice none 0 0]) ?_ 2 _ rfl; (with_reducible repeat (first | refine blk_drewN ?_ _ | refine blk_drew ?_ | refine blk_alloc ?_ _)); refine blk_put (cs := #[.int .i64 (l0.length : Int), .int .i64 0, .slice none 0 0]) ?_ 1 _ rfl; (with_reducible repeat (first | refine blk_drewN ?_ _ | refine blk_drew ?_ | refine blk_alloc ?_ _)); refine blk_put (cs := #[.int .i64 0, .int .i64 0, .slice none 0 0]) ?_ 0 _ rfl; (with_reducible repeat (first | refine blk_drewN ?_ _ | refine blk_drew ?_ | refine blk_alloc ?_ _)); exact aA.out) Try.underlying27 rfl (by kernel_rfl)) rfl ?_
            exact ⟨_, by first | rfl | (simp [errW_none, errW_some] <;> rfl) | (simp only [← aZ, ← bB]; first | rfl | (simp [errW_none, errW_some] <;> rfl)) | (simp [*, errW_none, errW_some] <;> rfl), by (with_reducible repeat (first | apply Kd.S_alloc | apply Kd.S_drewN | apply Kd.S_drew)); exact Kd.S_mono (Kd.S_far (p := ⟨aJ, 2, none⟩) (Kd.S_far (p := ⟨aJ, 1, none⟩) (Kd.S_far (p := ⟨aJ, 0, none⟩) (Kd.S_types aC.out aA.out (by decide)) (fun _ hk => hk.2) (.int .i64 (l0.length : Int))) (fun _ hk => hk.2) (.int .i64 0)) (fun _ hk => hk.2) (.slice cT aD.length cG)) (fun _ hk => trivial), b2_ HB.out aI.out aT.out⟩
          rw [if_pos bW] at H
          have cL : decide (0 < (aD.length : Int)) = true := decide_eq_true bW
          have cK : decide (0 < aD.length) = true := decide_eq_true (by omega)
          clear bW
          simp only [Option.some.injEq, Prod.mk.injEq] at H
          obtain ⟨rfl, rfl, rfl⟩ := H
          have fN := aM.out
          have fK := aH.out
          obtain ⟨eF, eE, eD, dN, dM, dL⟩ := bx3_ aE.out
          obtain ⟨cU, cH, fA⟩ := Kd.S_slice aC.out
          subst fA
          obtain ⟨eC, eB, eA, dK, dJ, dI⟩ := bx3_ aA.out
          go_wp2
          refine bodyPost_ret (results_cell_row rfl _ _ aJ 27 #[.int .i64 (l0.length : Int), .int .i64 bD, .slice cU aD.length cH] (0, 0) _ rfl (by (with_reducible repeat (first | refine blk_drewN ?_ _ | refine blk_drew ?_ | refine blk_alloc ?_ _)); refine blk_put (cs := #[.int .i64 (l0.length : Int), .int .i64 bD, .slice none 0 0]) ?_ 2 _ rfl; (with_reducible repeat (first | refine blk_drewN ?_ _ | refine blk_drew ?_ | refine blk_alloc ?_ _)); refine blk_put (cs := #[.int .i64 (l0.length : Int), .int .i64 0, .slice none 0 0]) ?_ 1 _ rfl; (with_reducible repeat (first | refine blk_drewN ?_ _ | refine blk_drew ?_ | refine blk_alloc ?_ _)); refine blk_put (cs := #[.int .i64 0, .int .i64 0, .slice none 0 0]) ?_ 0 _ rfl; (with_reducible repeat (first | refine blk_drewN ?_ _ | refine blk_drew ?_ | refine blk_alloc ?_ _)); refine blk_far ?_ aH.out _; (with_reducible repeat (first | refine blk_drewN ?_ _ | refine blk_drew ?_ | refine blk_alloc ?_ _)); exact aA.out) Try.underlying27 rfl (by kernel_rfl)) rfl ?_
          exact ⟨_, by first | rfl | (simp [errW_none, errW_some] <;> rfl) | (simp only [← aZ, ← bB]; first | rfl | (simp [errW_none, errW_some] <;> rfl)) | (simp [*, errW_none, errW_some] <;> rfl), by (with_reducible repeat (first | apply Kd.S_alloc | apply Kd.S_drewN | apply Kd.S_drew)); exact Kd.S_mono (Kd.S_far (p := ⟨aJ, 2, none⟩) (Kd.S_far (p := ⟨aJ, 1, none⟩) (Kd.S_far (p := ⟨aJ, 0, none⟩) (Kd.S_far (p := ⟨aN, 1, none⟩) (Kd.S_types (Kd.S_types aC.out aE.out (by decide)) aA.out (by decide)) (fun _ hk => hk.1.2) (.int .i64 bD)) (fun _ hk => hk.2) (.int .i64 (l0.length : Int))) (fun _ hk => hk.2) (.int .i64 bD)) (fun _ hk => hk.2) (.slice cU aD.length cH)) (fun _ hk => trivial), b2_ HB.out aI.out aT.out⟩
        rw [if_pos bX] at H
        have cM := decide_eq_true bX
        clear bX
        obtain ⟨fS, H⟩ := id_ H
        obtain ⟨fR, H⟩ := id_ H
        obtain ⟨bG, gF, H⟩ := bo_ H
        obtain ⟨cR, H⟩ := ia_ H
        obtain ⟨bP, bH⟩ : ∃ y_ : List (S52), y_ = (aD ++ [(⟨(⟨(rd_T45 l0 aG).f0, (rd_T45 l0 aG).f1⟩ : S45), bG⟩ : S52)]) := ⟨_, rfl⟩
        rw [← bH] at H
        have cQ := Aside0.mk bH
        clear bH
        have H' := Aside0.mk H
        clear H
        try go_wp2
        replace aC := q_ (Kd.S_drew aC.out)
        replace aA := q_ (blk_drew aA.out)
        replace aE := q_ (blk_drew aE.out)
        replace HB := q_ (below_drew1 HB.out)
        have bR : 0 ≤ (aG : Int) := od_
        have bQ : aG < (l0.length : Int) := od_
        obtain ⟨bE, fB, aW, aV⟩ := at_T45 bN.out aG bR bQ
        have aQ := aV
        have aR := aW
        cases fB
        replace aW := hc_ HB.out aW
        replace aV := hc_ HB.out aV
        replace bR := eq_true bR
        replace bQ := eq_true bQ
        refine sr_ (fun w' => w'.cell? ⟨aN, 0, none⟩ = some (.int .i64 (l0.length : Int)) ∧ w'.cell? ⟨aN, 1, none⟩ = some (.int .i64 0) ∧ w'.cell? ⟨aN, 2, none⟩ = some (aK) ∧ w'.cell? (bE.add ((aG).toNat * 2)) = some (.string ((rd_T45 l0 aG).f0)) ∧ w'.cell? ⟨(bE.add ((aG).toNat * 2)).block, (bE.add ((aG).toNat * 2)).off + 1, none⟩ = some (.string ((rd_T45 l0 aG).f1))) [13] impl_ProveBetween.tab15 impl_ProveBetween.bits15 ⟨(blk_cell aE.out 0).trans rfl, (blk_cell aE.out 1).trans rfl, (blk_cell aE.out 2).trans rfl, (hc_ HB.out aR), (hc_ HB.out aQ)⟩ (fun hD hT hW => ?_)
        generalize wr.drew = gJ at aC aA aE HB aW aV hD ⊢
        refine p_ 0 64 hT ?_; refine p_ 2 66 hT ?_; refine p_ 3 67 hT ?_; refine p_ 4 68 hT ?_; refine p_ 6 70 hT ?_; refine p_ 7 71 hT ?_; refine k_ 1 65 hT hW hD ?_; refine k_ 5 69 hT hW hD ?_
        refine oc_ 8 72 (bq_ 9 5) hT Try.func26 #[.slice (some bE) l0.length c0, .int .i64 aG] ?_
        with_reducible refine (impl_pathOf.calls k3 _ _ l0 aG bG _ ?side1 ?side2 gF.out).mono ?_
        (case side1 => exact kc_ (Kd.C_below bN.out HB.out))
        (case side2 => exact fD.out)
        rintro e gI ⟨fZ, rfl, eT, hb⟩
        refine ⟨_, rfl, ?_⟩
        replace aC := q_ (Kd.S_elder' (ks_ aC.out) (Kd.R_base eT) hb)
        have bF := q_ (Kd.R_lower eT (below_size (b2_ HB.out aI.out aT.out)))
        replace aA := q_ (bb_ aA.out hb)
        replace aE := q_ (bb_ aE.out hb)
        replace HB := q_ (below_step (b2_ HB.out aI.out aT.out) hb)
        (try clear hb)
        (try clear gL)
        (try clear hk)
        (try clear hi)
        (try clear eT)
        obtain ⟨cW, cJ, cF⟩ := Kd.R_slice bF.out
        (first | subst cF | (injection cF with cD eY cC; have eX := cD.symm; have eW := cC.symm; clear cD eY cC; subst eX; subst eW))
        refine ⟨⟨(blk_cell aE.out 0).trans rfl, (blk_cell aE.out 1).trans rfl, (blk_cell aE.out 2).trans rfl, (hc_ HB.out aR), (hc_ HB.out aQ)⟩, fun hD => nm_ ?_⟩
        refine p_ 9 73 hT ?_
        refine on_ 10 (some 74) (bq_ 11 3) hT (fun K hK => ?_)
        refine value_ (w1 := ?_) (v := ?_) (by rfl) rfl ?_ ?_
        rotate_left 2
        · go_simp
          constructor
          · rfl
          · rfl
        refine hK.out _ _ ⟨(blk_cell (blk_alloc aE.out _) 0).trans rfl, (blk_cell (blk_alloc aE.out _) 1).trans rfl, (blk_cell (blk_alloc aE.out _) 2).trans rfl, (World.cell?_alloc_lt _ _ _ (World.block_lt_of_cell? _ _ ((hc_ HB.out aR)))).trans ((hc_ HB.out aR)), (World.cell?_alloc_lt _ _ _ (World.block_lt_of_cell? _ _ ((hc_ HB.out aQ)))).trans ((hc_ HB.out aQ))⟩ (fun hD => ?_)
        clear hK K
        refine nm_ ?_
        refine on_ 11 (some 75) (bq_ 12 2) hT (fun K hK => ?_)
        refine Kd.S_append_step k52 (w0 := w) w.heap.size (by rfl) (.tmp 65) (.tmp 74) 25 52 (.agg #[(.string ⟨#[]⟩), (.string ⟨#[]⟩), (.slice none 0 0)]) 56 rfl Try.underlying25 info52 rfl (by decide) (by omega) aK aD (⟨(⟨(rd_T45 l0 aG).f0, (rd_T45 l0 aG).f1⟩ : S45), bG⟩ : S52) [.string ((rd_T45 l0 aG).f0), .string ((rd_T45 l0 aG).f1), .slice cW bG.length cJ] (fun _ => True) (fun k_ => some k_ = (.slice cW bG.length cJ : Value).ownBlock) rfl rfl ?aP (fun k_ hk_ => ((Kd.R_mono (ok' := fun k_ => ((fun _ => True)) k_ ∧ some k_ ≠ (aK : Value).ownBlock) (Kd.R_apart' (bF.out) (Kd.S_typed aC.out) (by decide)) (fun k_ hk => ⟨trivial, hk.2⟩))).1 k_ hk_.symm) ?aF ?aO ?aB ?aS ?aL ?_
        (case aP => exact k52_mkM _ _ _ (⟨(⟨(rd_T45 l0 aG).f0, (rd_T45 l0 aG).f1⟩ : S45), bG⟩ : S52) (Kd.R_mono (Kd.R_tight rfl (Kd.R_mono (ok' := fun k_ => ((fun _ => True)) k_ ∧ some k_ ≠ (aK : Value).ownBlock) (Kd.R_apart' (bF.out) (Kd.S_typed aC.out) (by decide)) (fun k_ hk => ⟨trivial, hk.2⟩))) (fun _ h_ => h_)))
        (case aB => exact (b2_ HB.out aI.out aT.out))
        (case aF => exact (fun _ _ => trivial))
        (case aO => exact (by (with_reducible repeat (first | apply Kd.S_alloc | apply Kd.S_drewN | apply Kd.S_drew)); exact Kd.S_mono aC.out (fun k_ hk => ⟨trivial, fun e_ => hk.2 e_⟩)))
        (case aS => exact (below_size (b2_ HB.out aI.out aT.out)))
        (case aL => have := cR.out; omega)
        intro fY fX ho hb hg hat
        rw [← cQ.out] at ho
        have fH := q_ (blk_grown (g := aJ) (o := .cells #[.int .i64 0, .int .i64 0, .slice none 0 0] 27 (0, 0)) (bk_ aA.out) hg (Kd.S_ne aC.out aA.out (by decide)))
        have fG := q_ (blk_grown (g := aN) (o := .cells #[.int .i64 (l0.length : Int), .int .i64 0, aK] 27 (0, 0)) (bk_ aE.out) hg (Kd.S_ne aC.out aE.out (by decide)))
        have fF := q_ (hb)
        have fE := q_ (ho)
        clear aA
        clear aE
        clear HB
        clear aC
        clear bF
        have aA := fH
        have aE := fG
        have HB := fF
        have bO := fE
        clear fH fG fF fE
        clear ho hb hg hat
        obtain ⟨cV, cI, cE⟩ := Kd.S_slice bO.out
        (first | subst cE | (injection cE with cD eY cC; have eX := cD.symm; have eW := cC.symm; clear cD eY cC; subst eX; subst eW))
        refine hK.out _ _ ⟨(blk_cell aE.out 0).trans rfl, (blk_cell aE.out 1).trans rfl, (blk_cell aE.out 2).trans rfl, (hc_ HB.out aR), (hc_ HB.out aQ)⟩ (fun hD => ?_)
        clear hK K
        refine nm_ ?_
        refine p_ 12 76 hT ?_
        refine last_ (i := 13) (N := none) (bq_ 14 0) rfl rfl (one_of hT.out (by kernel_rfl)) (by decide) (fun K hK => ?_)
        have gE : fX.cell? ⟨aN, 2, none⟩ = some (aK) := (blk_cell aE.out 2).trans rfl
        have fP := blk_frozen aE.out 2
        have cX := aH.out
        have cY := aM.out
        refine skip_ (w1 := ?_) (by rfl) rfl ?_ ?_
        rotate_left
        · go_simp
          rfl
        refine hK.out _ _ ?_
        clear hK K
        refine done_ (done_of hT.out (by kernel_rfl)) ?_
        try go_wp2
        go_roundg k3
        case measure => have := cA.out; have := cS.out; have := fV.out; omega
        case rel => exact ⟨(wrap64 (aG + 1)), (bP), (.slice cV bP.length cI), rs_, H', ⟨by have := cA.out; have := cS.out; have := fV.out; omega⟩, ⟨by (with_reducible repeat (first | apply Kd.S_alloc | apply Kd.S_drewN | apply Kd.S_drew)); exact Kd.S_mono (Kd.S_far (p := ⟨aN, 2, none⟩) (Kd.S_types bO.out aE.out (by decide)) (fun _ hk => hk.2) (.slice cV bP.length cI)) (fun _ hk => trivial)⟩, ⟨by (with_reducible repeat (first | refine blk_drewN ?_ _ | refine blk_drew ?_ | refine blk_alloc ?_ _)); refine blk_far ?_ aH.out _; (with_reducible repeat (first | refine blk_drewN ?_ _ | refine blk_drew ?_ | refine blk_alloc ?_ _)); exact aA.out⟩, ⟨by (with_reducible repeat (first | refine blk_drewN ?_ _ | refine blk_drew ?_ | refine blk_alloc ?_ _)); refine blk_put (cs := #[.int .i64 (l0.length : Int), .int .i64 0, aK]) ?_ 2 _ rfl; (with_reducible repeat (first | refine blk_drewN ?_ _ | refine blk_drew ?_ | refine blk_alloc ?_ _)); exact aE.out⟩, ⟨b2_ HB.out aI.out aT.out⟩⟩
 ·
  replace c5 := Bool.eq_false_iff.mpr c5
  subst c5
  rw [if_neg (show ¬ (false = true) by decide)] at H
  simp only [Option.some.injEq, Prod.mk.injEq] at H
  obtain ⟨rfl, rfl, rfl⟩ := H
  go_enter Try.func9, Try.ntmps9
  go_wp2_with (first | ((with_reducible refine gate_dst (N := 6) rfl ?_); refine box_event rfl (N := 6) rfl (cs := #[.int .i64 0, .int .i64 0, .slice none 0 0]) (t := 27) hr_ ?_; intro aJ hg gH hbox hb; have aA := q_ (hbox); have aI := ge_ hg (be_ HB.out); replace HB := q_ (below_step (be_ HB.out) hb); clear hb hbox hg) | ((with_reducible refine gate_callee (f := 25) rfl ?_); refine gl_ (some 12) Try.func25 #[.slice A0 l0.length c0] rfl al_ ?_; (with_reducible refine (impl_PairsOk.calls k _ _ l0 false _ ?side1 ?side2 A4.out).mono ?_); (case side1 => exact kc_ (Kd.C_below bN.out HB.out)); (case side2 => exact fD.out); rintro e gG ⟨rfl, hb⟩; refine ⟨_, rfl, ?_⟩; replace aA := q_ (bb_ aA.out hb); replace HB := q_ (below_step (bs_ HB.out aI.out) hb); (try clear hb); obtain ⟨dT, dS, dR, dB, dA, cZ⟩ := bx3_ aA.out))
  refine bodyPost_ret (results_cell_row rfl _ _ aJ 27 #[.int .i64 0, .int .i64 0, .slice none 0 0] (0, 0) _ rfl (by (with_reducible repeat (first | refine blk_drewN ?_ _ | refine blk_drew ?_ | refine blk_alloc ?_ _)); refine blk_put (cs := #[.int .i64 0, .int .i64 0, .slice none 0 0]) ?_ 2 _ rfl; (with_reducible repeat (first | refine blk_drewN ?_ _ | refine blk_drew ?_ | refine blk_alloc ?_ _)); refine blk_put (cs := #[.int .i64 0, .int .i64 0, .slice none 0 0]) ?_ 1 _ rfl; (with_reducible repeat (first | refine blk_drewN ?_ _ | refine blk_drew ?_ | refine blk_alloc ?_ _)); refine blk_put (cs := #[.int .i64 0, .int .i64 0, .slice none 0 0]) ?_ 0 _ rfl; (with_reducible repeat (first | refine blk_drewN ?_ _ | refine blk_drew ?_ | refine blk_alloc ?_ _)); exact aA.out) Try.underlying27 rfl (by kernel_rfl)) rfl ?_
  exact ⟨_, rf_, by first | exact Kd.S_nil _ _ _ _ _ | exact Kd.N_nil _ _ _ _ _ | exact Kd.V_nil _ _ _ _ _ | exact Kd.Q_nil _ _ _ _ _ | exact Kd.R_nil _ _ _ _ _, bs_ HB.out aI.out⟩
def spec_l4Top.f (k : Nat) (a0 : Int) (a1 : ByteArray) : Option (List Int) := (spec_PutNum.f k (([2] : List Int)) a0).bind fun aA => (if aA.length + a1.size < 140737488355328 then (some (aA ++ bytesOf a1)) else (none))
theorem spec_l4Top.calls (k : Nat) (a0 : Int) (a1 : ByteArray) (r : List Int) (w : World) (h : spec_l4Top.f k a0 a1 = some r) :
 Calls Try.prog 52 #[.int .i64 a0, .string a1] w fun e w' => ∃ v0_ : Value, e = .returned (v0_) ∧ Kd.R (Kd.int .u8) 5 w' w.heap.size (fun _ => True) v0_ r ∧ Below w.heap.size w w' := by
 have HB := q_ (Below.refl w.heap.size w)
 have H := h
 clear h
 unfold spec_l4Top.f at H
 obtain ⟨aH, aD⟩ : ∃ y_ : List Int, y_ = (([2] : List Int)) := ⟨_, rfl⟩
 rw [← aD] at H
 have aE := Aside0.mk aD
 clear aD
 obtain ⟨aI, A3, H⟩ := bo_ H
 obtain ⟨aQ, H⟩ := ia_ H
 obtain ⟨aX, aC⟩ : ∃ y_ : List Int, y_ = (aI ++ bytesOf a1) := ⟨_, rfl⟩
 rw [← aC] at H
 have aK := Aside0.mk aC
 clear aC
 obtain rfl := Option.some.inj H
 go_enter Try.func52, Try.ntmps52
 go_wp2_with (first | ((with_reducible refine gate_dst (N := 5) rfl ?_); refine Kd.R_lit (Kd.int .u8) _ 5 ?hg (N := 5) ?hd (xs := ([2] : List Int)) (inner := [.int .u8 2]) (ok := fun _ => True) (okp := fun _ => True) ?hr ?hp (fun _ hk => hk) trivial (Below.refl _ _) (Nat.le_refl _) (by simp) ?_; (case hd => rfl); (case hg => rfl); (case hr => first | (go_simp; done) | (go_simp; rfl)); (case hp => exact (Reps.one (show Kd.M (Kd.int .u8) _ _ _ 2 [.int .u8 2] from rfl) (Reps.none _ _))); intro aZ w5 aJ hb hg_ hnew_; clear hg_ hnew_; (first | rw [← aE.out] at aJ | (simp only [Int.reduceToNat] at aJ; rw [← aE.out] at aJ)); have aA := q_ (Kd.R_lower aJ (below_size (be_ HB.out))); replace HB := q_ (below_step (be_ HB.out) hb); clear hb aJ; obtain ⟨aW, aV, bA⟩ := Kd.R_slice aA.out; subst bA) | ((with_reducible refine gate_callee (f := 73) rfl ?_); refine gl_ (some 7) Try.func73 #[.slice aW aH.length aV, .int .i64 a0] rfl al_ ?_; (with_reducible refine (spec_PutNum.calls k _ _ aH a0 aI _ ?side1 ?side2 A3.out).mono ?_); (case side1 => exact kc_ (Kd.R_reads' aA.out).2.2); (case side2 => exact (Kd.R_reads' aA.out).2.1); rintro e w8 ⟨aN, rfl, aP, hb⟩; refine ⟨_, rfl, ?_⟩; have aG := q_ (Kd.R_lower (Kd.R_new' aP (Kd.R_lt (kr_ aA.out))) (below_size (be_ HB.out))); replace aA := q_ (Kd.R_elder' (kr_ aA.out) (Kd.R_base aP) hb); replace HB := q_ (below_step (be_ HB.out) hb); (try clear hb); (try clear aP)) | ((with_reducible refine gate_builtin (b := .append) (xs := #[.tmp 7, _]) rfl ?_); at_builtin; refine Kd.R_append_str (w0 := w) w.heap.size rfl (.tmp 7) _ 22 9 5 rfl Try.underlying22 Try.underlying9 info5 aN aI a1 (fun k_ => some k_ ≠ (.slice aW aH.length aV : Value).ownBlock) rfl rfl ?aF ?aO ?aB ?aS ?aL ?_; (case aB => exact (be_ HB.out)); (case aF => exact (fun k_ hk => Kd.fresh' (Kd.R_lt (kr_ aA.out)) k_ hk)); (case aO => exact (by (with_reducible repeat (first | apply Kd.R_alloc | apply Kd.R_drewN | apply Kd.R_drew)); exact Kd.R_mono aG.out (fun _ hk => hk.2))); (case aS => exact (below_size (be_ HB.out))); (case aL => have := aQ.out; omega); intro aY w9 ho hb hg hat; rw [← aK.out] at ho; have aU := q_ (Kd.R_after (ok := (fun _ => True)) (kr_ aA.out) hg hat); have aT := q_ (hb); have aR := q_ (ho); clear aA; clear HB; clear aG; have aA := aU; have HB := aT; have aM := aR; clear aU aT aR; clear ho hb hg hat))
 go_ret
 exact ⟨_, rf_, by (with_reducible repeat (first | apply Kd.R_alloc | apply Kd.R_drewN | apply Kd.R_drew)); exact Kd.R_mono aM.out (fun _ hk => trivial), be_ HB.out⟩
def spec_l4Root.f (k : Nat) (l0 : List (S45)) : Option (ByteArray) := (spec_l4Inner.f k l0).bind fun aC => ((spec_l4Top.f k (l0.length : Int) aC).bind fun aB => ((spec_Digest.f k aB).bind fun aA => (some aA)))
theorem spec_l4Root.calls (k : Nat) (A0 : Option Addr) (c0 : Nat) (l0 : List (S45)) (r : ByteArray) (w : World) (aE : Kd.C k45 w A0 l0.length l0) (aG : l0.length ≤ c0) (h : spec_l4Root.f k l0 = some r) :
 Calls Try.prog 27 #[.slice A0 l0.length c0] w fun e w' => e = .returned (.string r) ∧ Below w.heap.size w w' := by
 have aK := Aside0.mk aE
 have aL := Aside0.mk aG
 clear aE aG
 have HB := q_ (Below.refl w.heap.size w)
 have H := h
 clear h
 unfold spec_l4Root.f at H
 obtain ⟨aC, A2, H⟩ := bo_ H
 obtain ⟨aB, A3, H⟩ := bo_ H
 obtain ⟨aD, A4, H⟩ := bo_ H
 obtain rfl := Option.some.inj H
 go_enter Try.func27, Try.ntmps27
 go_wp2_with (first | ((with_reducible refine gate_callee (f := 53) rfl ?_); refine gl_ (some 6) Try.func53 #[.slice A0 l0.length c0] rfl al_ ?_; (with_reducible refine (spec_l4Inner.calls k _ _ l0 aC _ ?side1 ?side2 A2.out).mono ?_); (case side1 => exact kc_ aK.out); (case side2 => exact aL.out); rintro e w5 ⟨rfl, hb⟩; refine ⟨_, rfl, ?_⟩; replace HB := q_ (below_step (be_ HB.out) hb); (try clear hb)) | ((with_reducible refine gate_callee (f := 52) rfl ?_); refine gl_ (some 7) Try.func52 #[.int .i64 (l0.length : Int), .string aC] rfl al_ ?_; (with_reducible refine (spec_l4Top.calls k (l0.length : Int) aC aB _ A3.out).mono ?_); rintro e w6 ⟨aH, rfl, aF, hb⟩; refine ⟨_, rfl, ?_⟩; have aA := q_ (Kd.R_lower aF (below_size (be_ HB.out))); replace HB := q_ (below_step (be_ HB.out) hb); (try clear hb); (try clear aF); obtain ⟨aM, aJ, aI⟩ := Kd.R_slice aA.out; subst aI) | ((with_reducible refine gate_callee (f := 51) rfl ?_); refine gl_ (some 8) Try.func51 #[.slice aM aB.length aJ] rfl al_ ?_; (with_reducible refine (spec_Digest.calls k _ _ aB aD _ ?side1 ?side2 A4.out).mono ?_); (case side1 => exact kc_ (Kd.R_reads' aA.out).2.2); (case side2 => exact (Kd.R_reads' aA.out).2.1); rintro e w8 ⟨rfl, hb⟩; refine ⟨_, rfl, ?_⟩; replace aA := q_ (Kd.R_below (kr_ aA.out) hb); replace HB := q_ (below_step (be_ HB.out) hb); (try clear hb)))
 go_ret
 exact ⟨rf_, be_ HB.out⟩
def spec_RootOf.f (k : Nat) (l0 : List (S45)) : Option (ByteArray) := if (l0.length : Int) > 60 then (some (⟨#[]⟩ : ByteArray)) else ((spec_l4Root.f k l0).bind fun aA => (some aA))
theorem spec_RootOf.calls (k : Nat) (A0 : Option Addr) (c0 : Nat) (l0 : List (S45)) (r : ByteArray) (w : World) (aD : Kd.C k45 w A0 l0.length l0) (aE : l0.length ≤ c0) (h : spec_RootOf.f k l0 = some r) :
 Calls Try.prog 10 #[.slice A0 l0.length c0] w fun e w' => e = .returned (.string r) ∧ Below w.heap.size w w' := by
 have aF := Aside0.mk aD
 have aG := Aside0.mk aE
 clear aD aE
 have HB := q_ (Below.refl w.heap.size w)
 have H := h
 clear h
 unfold spec_RootOf.f at H
 by_cases c2 : (l0.length : Int) > 60
 ·
  rw [if_pos c2] at H
  have aC : decide (60 < (l0.length : Int)) = true := decide_eq_true c2
  have aB : decide (60 < l0.length) = true := decide_eq_true (by omega)
  clear c2
  obtain rfl := Option.some.inj H
  go_enter Try.func10, Try.ntmps10
  go_wp2
  go_ret
  exact ⟨rf_, be_ HB.out⟩
 ·
  rw [if_neg c2] at H
  have aC : decide (60 < (l0.length : Int)) = false := decide_eq_false c2
  have aB : decide (60 < l0.length) = false := decide_eq_false (by omega)
  clear c2
  obtain ⟨aA, A3, H⟩ := bo_ H
  obtain rfl := Option.some.inj H
  go_enter Try.func10, Try.ntmps10
  go_wp2_with (first | ((with_reducible refine gate_callee (f := 27) rfl ?_); refine gl_ (some 7) Try.func27 #[.slice A0 l0.length c0] rfl al_ ?_; (with_reducible refine (spec_l4Root.calls k _ _ l0 aA _ ?side1 ?side2 A3.out).mono ?_); (case side1 => exact kc_ aF.out); (case side2 => exact aG.out); rintro e w4 ⟨rfl, hb⟩; refine ⟨_, rfl, ?_⟩; replace HB := q_ (below_step (be_ HB.out) hb); (try clear hb)))
  go_ret
  exact ⟨rf_, be_ HB.out⟩
def laws_samePairs.l0 : Nat → List (S45) → List (S45) → Int → Option (Bool)
 | 0, _, _, _ => none
 | k + 1, x0, x1, x5 => if x5 < (x0.length : Int) then (if 0 ≤ x5 then (if x5 < (x1.length : Int) then (if (!((((rd_T45 x0 x5).f0).toList) == (((rd_T45 x1 x5).f0).toList)) || (!((((rd_T45 x0 x5).f1).toList) == (((rd_T45 x1 x5).f1).toList)))) = true then (some false) else (laws_samePairs.l0 k x0 x1 (wrap64 (x5 + 1)))) else (none)) else (none)) else (some true)
def laws_samePairs.f (k : Nat) (l0 : List (S45)) (l1 : List (S45)) : Option (Bool) := if (l0.length : Int) = (l1.length : Int) then (laws_samePairs.l0 k l0 l1 0) else (some false)
theorem laws_samePairs.calls (k : Nat) (A0 : Option Addr) (c0 : Nat) (l0 : List (S45)) (A1 : Option Addr) (c1 : Nat) (l1 : List (S45)) (r : Bool) (w : World) (aT : Kd.C k45 w A0 l0.length l0) (aV : l0.length ≤ c0) (aS : Kd.C k45 w A1 l1.length l1) (aU : l1.length ≤ c1) (h : laws_samePairs.f k l0 l1 = some r) :
 Calls Try.prog 11 #[.slice A0 l0.length c0, .slice A1 l1.length c1] w fun e w' => e = .returned (.bool r) ∧ Drawn0 w w' := by
 have aZ := Try.underlying45
 have aX := Aside0.mk aT
 have bD := Aside0.mk aV
 clear aT aV
 have aW := Aside0.mk aS
 have bC := Aside0.mk aU
 clear aS aU
 have H := h
 clear h
 unfold laws_samePairs.f at H
 by_cases c3 : (l0.length : Int) = (l1.length : Int)
 ·
  rw [if_pos c3] at H
  have aR := beq_iff_eq.mpr c3
  have aQ := bne_eq_false_iff_eq.mpr c3
  have aP : (l0.length == l1.length) = true := by first | simpa using c3 | (simp at c3 ⊢; omega)
  clear c3
  have H' := Aside0.mk H
  clear H
  go_enter Try.func11, Try.ntmps11
  go_wp2
  repeat (go_quiet (fail); try go_wp2)
  go_loopg [5] k (fun kq v5 w' => ∃ (aA : Int), v5 = .int .i64 aA ∧ Aside0 (laws_samePairs.l0 kq l0 l1 aA = some r) ∧ Aside0 (kq ≤ k) ∧ Drawn0 w w')
  case atStart => exact ⟨(0), rs_, H', ⟨Nat.le_refl _⟩, by repeat (first | exact Drawn0.refl _ | apply Drawn0.step)⟩
  case round =>
   clear H'
   obtain ⟨aA, rfl, HA, aY, ⟨m1, rfl⟩⟩ := hrel
   cases gk with
   | zero => exact absurd HA.out (by simp [laws_samePairs.l0])
   | succ k1 =>
    have H := HA.out
    clear HA
    simp only [laws_samePairs.l0] at H
    by_cases c4 : aA < (l0.length : Int)
    rotate_left
    ·
     rw [if_neg c4] at H
     have aO := decide_eq_false c4
     clear c4
     obtain rfl := Option.some.inj H
     go_wp2
     repeat (go_quiet (fail); try go_wp2)
     go_ret
     exact ⟨rs_, by repeat (first | exact Drawn0.refl _ | apply Drawn0.step)⟩
    rw [if_pos c4] at H
    have aO := decide_eq_true c4
    clear c4
    obtain ⟨bB, H⟩ := id_ H
    obtain ⟨bA, H⟩ := id_ H
    by_cases c7 : (!((((rd_T45 l0 aA).f0).toList) == (((rd_T45 l1 aA).f0).toList)) || (!((((rd_T45 l0 aA).f1).toList) == (((rd_T45 l1 aA).f1).toList)))) = true
    ·
     rw [if_pos c7] at H
     have aN : (!((((rd_T45 l0 aA).f0).toList) == (((rd_T45 l1 aA).f0).toList)) || (!((((rd_T45 l0 aA).f1).toList) == (((rd_T45 l1 aA).f1).toList)))) = true := c7
     clear c7
     obtain rfl := Option.some.inj H
     have aE : 0 ≤ (aA : Int) := od_
     have aC : aA < (l0.length : Int) := od_
     obtain ⟨aM, aK, aI, aH⟩ := at_T45 aX.out aA aE aC
     cases aK
     replace aE := eq_true aE
     replace aC := eq_true aC
     have aD : 0 ≤ (aA : Int) := od_
     have aB : aA < (l1.length : Int) := od_
     obtain ⟨aL, aJ, aG, aF⟩ := at_T45 aW.out aA aD aB
     cases aJ
     replace aD := eq_true aD
     replace aB := eq_true aB
     go_wp2
     repeat (go_quiet (fail); try go_wp2)
     go_ret
     exact ⟨rs_, by repeat (first | exact Drawn0.refl _ | apply Drawn0.step)⟩
    rw [if_neg c7] at H
    have aN : (!((((rd_T45 l0 aA).f0).toList) == (((rd_T45 l1 aA).f0).toList)) || (!((((rd_T45 l0 aA).f1).toList) == (((rd_T45 l1 aA).f1).toList)))) = false := by simpa using c7
    clear c7
    have H' := Aside0.mk H
    clear H
    have aE : 0 ≤ (aA : Int) := od_
    have aC : aA < (l0.length : Int) := od_
    obtain ⟨aM, aK, aI, aH⟩ := at_T45 aX.out aA aE aC
    cases aK
    replace aE := eq_true aE
    replace aC := eq_true aC
    have aD : 0 ≤ (aA : Int) := od_
    have aB : aA < (l1.length : Int) := od_
    obtain ⟨aL, aJ, aG, aF⟩ := at_T45 aW.out aA aD aB
    cases aJ
    replace aD := eq_true aD
    replace aB := eq_true aB
    go_wp2
    repeat (go_quiet (fail); try go_wp2)
    go_roundg k1
    case measure => have := aY.out; omega
    case rel => exact ⟨(wrap64 (aA + 1)), rs_, H', ⟨by have := aY.out; omega⟩, by repeat (first | exact Drawn0.refl _ | apply Drawn0.step)⟩
 ·
  rw [if_neg c3] at H
  have aR := beq_eq_false_iff_ne.mpr c3
  have aQ := bne_iff_ne.mpr c3
  have aP : (l0.length == l1.length) = false := by first | simpa using c3 | (simp at c3 ⊢; omega)
  obtain rfl := Option.some.inj H
  go_enter Try.func11, Try.ntmps11
  go_wp2
  repeat (go_quiet (fail); try go_wp2)
  go_ret
  exact ⟨rs_, by repeat (first | exact Drawn0.refl _ | apply Drawn0.step)⟩
end Go.Proofs.Ytgmfhchhbidlnaa.P
