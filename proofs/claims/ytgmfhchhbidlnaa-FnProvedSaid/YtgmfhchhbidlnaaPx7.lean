import Derived.Test.YtgmfhchhbidlnaaStr
import Derived.Test.YtgmfhchhbidlnaaPx0
import Derived.Test.YtgmfhchhbidlnaaPx1
import Derived.Test.YtgmfhchhbidlnaaPx3
import Derived.Test.YtgmfhchhbidlnaaPx6
namespace Go.Proofs.Ytgmfhchhbidlnaa.P
open Go.RowKit Go.Proofs.YtgmfhchhbidlnaaW.PrintWords Go.Proofs.YtgmfhchhbidlnaaW.PrintLast Go.Proofs.YtgmfhchhbidlnaaW.PrintMore
attribute [local go_sem] max2_int min2_int max_two min_two max_three min_three max_four min_four
set_option linter.unusedVariables false
set_option maxHeartbeats 8000000
set_option maxRecDepth 100000
set_option linter.unusedSimpArgs false
def spec_l4Path.f : Nat → List (S45) → Int → Option (List ByteArray)
 | 0, _, _ => none
 | k + 1, l0, a1 => if (l0.length : Int) < 2 then (some (([] : List ByteArray))) else ((spec_l4Half.f k (l0.length : Int)).bind fun aA => (if a1 < aA then (if 0 ≤ aA then (if aA ≤ (l0.length : Int) then ((spec_l4Path.f k (l0.take (aA : Int).toNat) a1).bind fun aC => ((spec_l4Inner.f k (l0.drop (aA : Int).toNat)).bind fun aE => (if aC.length < 8796093022208 then (some (aC ++ [aE])) else (none)))) else (none)) else (none)) else (if 0 ≤ aA then (if aA ≤ (l0.length : Int) then ((spec_l4Path.f k (l0.drop (aA : Int).toNat) (wrap64 (a1 - aA))).bind fun aB => ((spec_l4Inner.f k (l0.take (aA : Int).toNat)).bind fun aD => (if aB.length < 8796093022208 then (some (aB ++ [aD])) else (none)))) else (none)) else (none))))
def spec_l4Path.T5 : Bool × List (List Nat × List Nat) := (true, [([], []), ([], []), ([0, 1], [0, 1]), ([], []), ([2, 3], [2, 3]), ([], []), ([], []), ([5, 6], [5, 6]), ([7, 4], [7]), ([8], [8]), ([4, 9, 8], [4, 9]), ([10, 10, 0, 1, 2, 3, 4, 5, 6, 7, 8, 9, 10], [10])])
def spec_l4Path.B5 : List Nat := [0, 0, 3, 0, 15, 0, 0, 96, 255, 511, 1023, 2047]
theorem spec_l4Path.tab5 : rtab .any (opsOf Try.f42 5) = spec_l4Path.T5 := by kernel_rfl
theorem spec_l4Path.bits5 : waitsOk spec_l4Path.T5.2 spec_l4Path.B5 = true := by kernel_rfl
def spec_l4Path.T6 : Bool × List (List Nat × List Nat) := (true, [([], []), ([], []), ([0, 1], [0, 1]), ([], []), ([], []), ([3, 4], [3, 4]), ([2, 5], [2, 5]), ([], []), ([], []), ([7, 8], [7, 8]), ([9, 6], [9]), ([10], [10]), ([6, 11, 10], [6, 11]), ([12, 12, 0, 1, 2, 3, 4, 5, 6, 7, 8, 9, 10, 11, 12], [12])])
def spec_l4Path.B6 : List Nat := [0, 0, 3, 0, 0, 24, 63, 0, 0, 384, 1023, 2047, 4095, 8191]
theorem spec_l4Path.tab6 : rtab .any (opsOf Try.f42 6) = spec_l4Path.T6 := by kernel_rfl
theorem spec_l4Path.bits6 : waitsOk spec_l4Path.T6.2 spec_l4Path.B6 = true := by kernel_rfl
theorem spec_l4Path.calls (k : Nat) : ∀ (A0 : Option Addr) (c0 : Nat) (l0 : List (S45)) (a1 : Int) (r : List ByteArray) (w : World) (dM : Kd.C k45 w A0 l0.length l0) (dN : l0.length ≤ c0) (h : spec_l4Path.f k l0 a1 = some r),
 Calls Try.prog 42 #[.slice A0 l0.length c0, .int .i64 a1] w fun e w' => ∃ v0_ : Value, e = .returned (v0_) ∧ Kd.R Kd.string 9 w' w.heap.size (fun _ => True) v0_ r ∧ Below w.heap.size w w' := by
 induction k using Nat.strongRecOn with
 | _ k ih =>
 intro A0 c0 l0 a1 r w dM dN h
 cases k with
 | zero => exact absurd h (by simp [spec_l4Path.f])
 | succ k =>
 simp only [spec_l4Path.f] at h
 have dC := Aside0.mk dM
 have dD := Aside0.mk dN
 clear dM dN
 have HB := q_ (Below.refl w.heap.size w)
 have H : (if (l0.length : Int) < 2 then (some (([] : List ByteArray))) else ((spec_l4Half.f k (l0.length : Int)).bind fun aA => (if a1 < aA then (if 0 ≤ aA then (if aA ≤ (l0.length : Int) then ((spec_l4Path.f k (l0.take (aA : Int).toNat) a1).bind fun aD => ((spec_l4Inner.f k (l0.drop (aA : Int).toNat)).bind fun aG => (if aD.length < 8796093022208 then (some (aD ++ [aG])) else (none)))) else (none)) else (none)) else (if 0 ≤ aA then (if aA ≤ (l0.length : Int) then ((spec_l4Path.f k (l0.drop (aA : Int).toNat) (wrap64 (a1 - aA))).bind fun aC => ((spec_l4Inner.f k (l0.take (aA : Int).toNat)).bind fun aE => (if aC.length < 8796093022208 then (some (aC ++ [aE])) else (none)))) else (none)) else (none))))) = some r := h
 clear h
 by_cases c3 : (l0.length : Int) < 2
 ·
  rw [if_pos c3] at H
  have dR := decide_eq_true c3
  have dQ : decide (l0.length < 2) = true := decide_eq_true (by omega)
  clear c3
  obtain ⟨eI, bB⟩ : ∃ y_ : List ByteArray, y_ = (([] : List ByteArray)) := ⟨_, rfl⟩
  rw [← bB] at H
  have bS := Aside0.mk bB
  clear bB
  obtain rfl := Option.some.inj H
  go_enter Try.func42, Try.ntmps42
  go_wp2_with (first | ((with_reducible refine gate_dst (N := 9) rfl ?_); refine Kd.R_lit Kd.string _ 9 ?hg (N := 9) ?hd (xs := ([] : List ByteArray)) (inner := []) (ok := fun _ => True) (okp := fun _ => True) ?hr ?hp (fun _ hk => hk) trivial (Below.refl _ _) (Nat.le_refl _) (by simp) ?_; (case hd => rfl); (case hg => rfl); (case hr => first | (go_simp; done) | (go_simp; rfl)); (case hp => exact (Reps.none _ _)); intro eL w4 cL hb hg_ hnew_; clear hg_ hnew_; (first | rw [← bS.out] at cL | (simp only [Int.reduceToNat] at cL; rw [← bS.out] at cL)); have cX := q_ (Kd.R_lower cL (below_size (be_ HB.out))); replace HB := q_ (below_step (be_ HB.out) hb); clear hb cL))
  go_ret
  exact ⟨_, rf_, kr_ cX.out, be_ HB.out⟩
 ·
  rw [if_neg c3] at H
  have dR := decide_eq_false c3
  have dQ : decide (l0.length < 2) = false := decide_eq_false (by omega)
  clear c3
  obtain ⟨aA, A6, H⟩ := bo_ H
  by_cases c7 : a1 < aA
  ·
   rw [if_pos c7] at H
   have dP := decide_eq_true c7
   clear c7
   obtain ⟨c8, H⟩ := ip_ H
   have eT := eq_true c8
   have eS : decide (0 ≤ aA) = true := decide_eq_true c8
   clear c8
   obtain ⟨c9, H⟩ := ip_ H
   have eR := eq_true c9
   have eQ : decide (aA ≤ (l0.length : Int)) = true := decide_eq_true c9
   clear c9
   obtain ⟨aU, bA⟩ : ∃ y_ : List (S45), y_ = (l0.take (aA : Int).toNat) := ⟨_, rfl⟩
   replace H : ((spec_l4Path.f k aU a1).bind fun aD => ((spec_l4Inner.f k (l0.drop (aA : Int).toNat)).bind fun aG => (if aD.length < 8796093022208 then (some (aD ++ [aG])) else (none)))) = some r := ry_ bA H
   have bR := Aside0.mk bA
   clear bA
   obtain ⟨aD, fD, H⟩ := bo_ H
   have eD := eq_true (od_ : 0 ≤ aA)
   have eC := eq_true (od_ : aA ≤ (l0.length : Int))
   obtain ⟨aK, aZ⟩ : ∃ y_ : List (S45), y_ = (l0.drop (aA : Int).toNat) := ⟨_, rfl⟩
   replace H : ((spec_l4Inner.f k aK).bind fun aG => (if aD.length < 8796093022208 then (some (aD ++ [aG])) else (none))) = some r := ry_ aZ H
   have bQ := Aside0.mk aZ
   clear aZ
   obtain ⟨aG, fC, H⟩ := bo_ H
   obtain ⟨cU, H⟩ := ia_ H
   obtain ⟨eH, aY⟩ : ∃ y_ : List ByteArray, y_ = (aD ++ [aG]) := ⟨_, rfl⟩
   rw [← aY] at H
   have cS := Aside0.mk aY
   clear aY
   obtain rfl := Option.some.inj H
   go_enter Try.func42, Try.ntmps42
   try go_wp2_with (first | ((with_reducible refine gate_callee (f := 62) rfl ?_); refine gl_ (some 12) Try.func62 #[.int .i64 (l0.length : Int)] rfl al_ ?_; (with_reducible refine (spec_l4Half.calls k (l0.length : Int) aA _ A6.out).mono ?_); rintro e w' ⟨rfl, ⟨nd, rfl⟩⟩; refine ⟨_, rfl, ?_⟩))
   replace HB := q_ (below_drew1 (pw_below_drewN HB.out nd))
   have dJ : (aA : Int) ≤ ((l0.length : Int) : Int) := od_
   obtain ⟨eP, bN, _, cK, _⟩ := info_parts info45
   have aN : l0.length ≤ c0 := dD.out
   have cQ : Kd.C k45 _ A0 l0.length l0 := dC.out
   have cE := cut_to (P := Try.prog) 24 45 .i64 Try.underlying24 bN A0 l0.length c0 aA od_ dJ aN
   have cA := Kd.C_take (m := (aA : Int).toNat) cQ (by omega)
   have bY : aU.length = (aA : Int).toNat := (by rw [bR.out, List.length_take]; omega)
   rw [← bR.out] at cA
   rw [← bY] at cE
   have bW := Aside0.mk cA
   have dB := q_ (show aU.length ≤ c0 from by omega)
   clear cA cQ aN bN cK
   have eX := Aside0.mk bY
   clear bY
   replace dJ := eq_true dJ
   have dI : (aA : Int) ≤ ((l0.length : Int) : Int) := od_
   obtain ⟨eO, bM, _, bJ, _⟩ := info_parts info45
   have aI : l0.length ≤ c0 := dD.out
   have cP : Kd.C k45 _ A0 l0.length l0 := dC.out
   have dL : (0 : Int) ≤ (aA : Int) := od_
   have cD := cut_from (P := Try.prog) 24 45 .i64 Try.underlying24 bM 2 bJ A0 l0.length c0 aA dL dI
   have bD := Kd.C_drop (m := (aA : Int).toNat) (c := c0) cP (by omega) aI
   obtain ⟨eF, bH⟩ : ∃ A1, A1 = (if c0 = (aA : Int).toNat then A0 else (A0 : Option Addr).map (·.add ((aA : Int).toNat * 2))) := ⟨_, rfl⟩
   obtain ⟨eB, cG⟩ : ∃ c1, c1 = c0 - (aA : Int).toNat := ⟨_, rfl⟩
   have bF : aK.length = l0.length - (aA : Int).toNat := (by rw [bQ.out, List.length_drop] <;> omega)
   rw [show (l0).drop (aA : Int).toNat = aK from bQ.out.symm] at bD
   replace bD : Kd.C k45 _ eF aK.length aK := (by rw [bH]; exact bD)
   rw [← bF, ← bH, ← cG] at cD
   have bV := Aside0.mk bD
   have dA := q_ (show aK.length ≤ eB from by rw [bF, cG]; exact Nat.sub_le_sub_right aI _)
   clear bD cP aI bM bJ cG
   have eW := Aside0.mk bF
   have eZ := Aside0.mk bH
   clear bF bH
   replace dI := eq_true dI
   refine sr_ (fun w' => True) [] spec_l4Path.tab5 spec_l4Path.bits5 trivial (fun hD hT hW => ?_)
   generalize (World.drewN w nd).drew = fL at HB bW bV hD ⊢
   refine p_ 0 16 hT ?_; refine p_ 1 17 hT ?_; refine p_ 2 18 hT ?_; refine p_ 3 19 hT ?_; refine p_ 5 21 hT ?_; refine p_ 6 22 hT ?_; refine p_ 7 23 hT ?_
   refine oc_ 4 20 (bq_ 8 4) hT Try.func42 #[.slice A0 aU.length c0, .int .i64 a1] ?_
   with_reducible refine (ih k (by omega) _ _ aU a1 aD _ ?side1 ?side2 fD.out).mono ?_
   (case side1 => exact kc_ (Kd.C_below bW.out HB.out))
   (case side2 => exact dB.out)
   rintro e fK ⟨dF, rfl, cM, hb⟩
   refine ⟨_, rfl, ?_⟩
   have aR := q_ (Kd.R_lower cM (below_size (be_ HB.out)))
   replace HB := q_ (below_step (be_ HB.out) hb)
   (try clear hb)
   (try clear dO)
   (try clear hk)
   (try clear hi)
   (try clear cM)
   refine ⟨trivial, fun hD => nm_ ?_⟩
   refine oc_ 8 24 (bq_ 9 3) hT Try.func53 #[.slice eF aK.length eB] ?_
   with_reducible refine (spec_l4Inner.calls k _ _ aK aG _ ?side1 ?side2 fC.out).mono ?_
   (case side1 => exact kc_ (Kd.C_below bV.out HB.out))
   (case side2 => exact dA.out)
   rintro e fJ ⟨rfl, hb⟩
   refine ⟨_, rfl, ?_⟩
   replace aR := q_ (Kd.R_below (kr_ aR.out) hb)
   replace HB := q_ (below_step (be_ HB.out) hb)
   (try clear hb)
   (try clear dO)
   (try clear hk)
   (try clear hi)
   refine ⟨trivial, fun hD => nm_ ?_⟩
   refine on_ 9 (some 25) (bq_ 10 2) hT (fun K hK => ?_)
   refine value_ (w1 := ?_) (v := ?_) (by rfl) rfl ?_ ?_
   rotate_left 2
   · go_simp
     constructor
     · rfl
     · rfl
   refine hK.out _ _ trivial (fun hD => ?_)
   clear hK K
   refine nm_ ?_
   refine on_ 10 (some 26) (bq_ 11 1) hT (fun K hK => ?_)
   refine Kd.R_append_step Kd.string (w0 := w) w.heap.size (by rfl) (.tmp 20) (.tmp 25) 50 9 (.string ⟨#[]⟩) 16 rfl Try.underlying50 info9 rfl (by decide) (by omega) dF aD aG [.string aG] (fun _ => True) (fun _ => False) rfl rfl ?aP (fun _ hk => hk.elim) ?aF ?aO ?aB ?aS ?aL ?_
   (case aP => exact rfl)
   (case aB => exact (be_ HB.out))
   (case aF => exact (fun _ _ => trivial))
   (case aO => exact (kr_ aR.out))
   (case aS => exact (below_size (be_ HB.out)))
   (case aL => have := cU.out; omega)
   intro eK fI ho hb hg hat
   rw [← cS.out] at ho
   have cI := q_ (hb)
   have cH := q_ (ho)
   clear HB
   clear aR
   have HB := cI
   have cW := cH
   clear cI cH
   clear ho hb hg hat
   refine hK.out _ _ trivial (fun hD => ?_)
   clear hK K
   refine nm_ ?_
   refine p_ 11 4 hT ?_
   refine done_ (done_of hT.out (by kernel_rfl)) ?_
   try go_wp2
   go_ret
   exact ⟨_, rf_, kr_ cW.out, be_ HB.out⟩
  ·
   rw [if_neg c7] at H
   have dP := decide_eq_false c7
   clear c7
   obtain ⟨dT, H⟩ := ip_ H
   have eA := eq_true dT
   have dZ : decide (0 ≤ aA) = true := decide_eq_true dT
   clear dT
   obtain ⟨dS, H⟩ := ip_ H
   have dY := eq_true dS
   have dX : decide (aA ≤ (l0.length : Int)) = true := decide_eq_true dS
   clear dS
   obtain ⟨aJ, aX⟩ : ∃ y_ : List (S45), y_ = (l0.drop (aA : Int).toNat) := ⟨_, rfl⟩
   replace H : ((spec_l4Path.f k aJ (wrap64 (a1 - aA))).bind fun aC => ((spec_l4Inner.f k (l0.take (aA : Int).toNat)).bind fun aE => (if aC.length < 8796093022208 then (some (aC ++ [aE])) else (none)))) = some r := ry_ aX H
   have bP := Aside0.mk aX
   clear aX
   obtain ⟨aC, fB, H⟩ := bo_ H
   have dW := eq_true (od_ : 0 ≤ aA)
   have dV := eq_true (od_ : aA ≤ (l0.length : Int))
   obtain ⟨aT, aW⟩ : ∃ y_ : List (S45), y_ = (l0.take (aA : Int).toNat) := ⟨_, rfl⟩
   replace H : ((spec_l4Inner.f k aT).bind fun aE => (if aC.length < 8796093022208 then (some (aC ++ [aE])) else (none))) = some r := ry_ aW H
   have bO := Aside0.mk aW
   clear aW
   obtain ⟨aE, fA, H⟩ := bo_ H
   obtain ⟨cT, H⟩ := ia_ H
   obtain ⟨eG, aV⟩ : ∃ y_ : List ByteArray, y_ = (aC ++ [aE]) := ⟨_, rfl⟩
   rw [← aV] at H
   have cR := Aside0.mk aV
   clear aV
   obtain rfl := Option.some.inj H
   go_enter Try.func42, Try.ntmps42
   try go_wp2_with (first | ((with_reducible refine gate_callee (f := 62) rfl ?_); refine gl_ (some 12) Try.func62 #[.int .i64 (l0.length : Int)] rfl al_ ?_; (with_reducible refine (spec_l4Half.calls k (l0.length : Int) aA _ A6.out).mono ?_); rintro e w' ⟨rfl, ⟨nd, rfl⟩⟩; refine ⟨_, rfl, ?_⟩))
   replace HB := q_ (below_drew1 (pw_below_drewN HB.out nd))
   have dH : (aA : Int) ≤ ((l0.length : Int) : Int) := od_
   obtain ⟨eN, bL, _, bI, _⟩ := info_parts info45
   have aH : l0.length ≤ c0 := dD.out
   have cO : Kd.C k45 _ A0 l0.length l0 := dC.out
   have dK : (0 : Int) ≤ (aA : Int) := od_
   have cC := cut_from (P := Try.prog) 24 45 .i64 Try.underlying24 bL 2 bI A0 l0.length c0 aA dK dH
   have bC := Kd.C_drop (m := (aA : Int).toNat) (c := c0) cO (by omega) aH
   obtain ⟨eE, bG⟩ : ∃ A1, A1 = (if c0 = (aA : Int).toNat then A0 else (A0 : Option Addr).map (·.add ((aA : Int).toNat * 2))) := ⟨_, rfl⟩
   obtain ⟨dU, cF⟩ : ∃ c1, c1 = c0 - (aA : Int).toNat := ⟨_, rfl⟩
   have bE : aJ.length = l0.length - (aA : Int).toNat := (by rw [bP.out, List.length_drop] <;> omega)
   rw [show (l0).drop (aA : Int).toNat = aJ from bP.out.symm] at bC
   replace bC : Kd.C k45 _ eE aJ.length aJ := (by rw [bG]; exact bC)
   rw [← bE, ← bG, ← cF] at cC
   have bU := Aside0.mk bC
   have cZ := q_ (show aJ.length ≤ dU from by rw [bE, cF]; exact Nat.sub_le_sub_right aH _)
   clear bC cO aH bL bI cF
   have eV := Aside0.mk bE
   have eY := Aside0.mk bG
   clear bE bG
   replace dH := eq_true dH
   have dG : (aA : Int) ≤ ((l0.length : Int) : Int) := od_
   obtain ⟨eM, bK, _, cJ, _⟩ := info_parts info45
   have aM : l0.length ≤ c0 := dD.out
   have cN : Kd.C k45 _ A0 l0.length l0 := dC.out
   have cB := cut_to (P := Try.prog) 24 45 .i64 Try.underlying24 bK A0 l0.length c0 aA od_ dG aM
   have bZ := Kd.C_take (m := (aA : Int).toNat) cN (by omega)
   have bX : aT.length = (aA : Int).toNat := (by rw [bO.out, List.length_take]; omega)
   rw [← bO.out] at bZ
   rw [← bX] at cB
   have bT := Aside0.mk bZ
   have cY := q_ (show aT.length ≤ c0 from by omega)
   clear bZ cN aM bK cJ
   have eU := Aside0.mk bX
   clear bX
   replace dG := eq_true dG
   refine sr_ (fun w' => True) [] spec_l4Path.tab6 spec_l4Path.bits6 trivial (fun hD hT hW => ?_)
   generalize (World.drewN w nd).drew = fH at HB bU bT hD ⊢
   refine p_ 0 27 hT ?_; refine p_ 1 28 hT ?_; refine p_ 2 29 hT ?_; refine p_ 3 30 hT ?_; refine p_ 4 31 hT ?_; refine p_ 5 32 hT ?_; refine p_ 7 34 hT ?_; refine p_ 8 35 hT ?_; refine p_ 9 36 hT ?_
   refine oc_ 6 33 (bq_ 10 4) hT Try.func42 #[.slice eE aJ.length dU, .int .i64 (wrap64 (a1 - aA))] ?_
   with_reducible refine (ih k (by omega) _ _ aJ (wrap64 (a1 - aA)) aC _ ?side1 ?side2 fB.out).mono ?_
   (case side1 => exact kc_ (Kd.C_below bU.out HB.out))
   (case side2 => exact cZ.out)
   rintro e fG ⟨dE, rfl, cM, hb⟩
   refine ⟨_, rfl, ?_⟩
   have aQ := q_ (Kd.R_lower cM (below_size (be_ HB.out)))
   replace HB := q_ (below_step (be_ HB.out) hb)
   (try clear hb)
   (try clear dO)
   (try clear hk)
   (try clear hi)
   (try clear cM)
   refine ⟨trivial, fun hD => nm_ ?_⟩
   refine oc_ 10 37 (bq_ 11 3) hT Try.func53 #[.slice A0 aT.length c0] ?_
   with_reducible refine (spec_l4Inner.calls k _ _ aT aE _ ?side1 ?side2 fA.out).mono ?_
   (case side1 => exact kc_ (Kd.C_below bT.out HB.out))
   (case side2 => exact cY.out)
   rintro e fF ⟨rfl, hb⟩
   refine ⟨_, rfl, ?_⟩
   replace aQ := q_ (Kd.R_below (kr_ aQ.out) hb)
   replace HB := q_ (below_step (be_ HB.out) hb)
   (try clear hb)
   (try clear dO)
   (try clear hk)
   (try clear hi)
   refine ⟨trivial, fun hD => nm_ ?_⟩
   refine on_ 11 (some 38) (bq_ 12 2) hT (fun K hK => ?_)
   refine value_ (w1 := ?_) (v := ?_) (by rfl) rfl ?_ ?_
   rotate_left 2
   · go_simp
     constructor
     · rfl
     · rfl
   refine hK.out _ _ trivial (fun hD => ?_)
   clear hK K
   refine nm_ ?_
   refine on_ 12 (some 39) (bq_ 13 1) hT (fun K hK => ?_)
   refine Kd.R_append_step Kd.string (w0 := w) w.heap.size (by rfl) (.tmp 33) (.tmp 38) 50 9 (.string ⟨#[]⟩) 16 rfl Try.underlying50 info9 rfl (by decide) (by omega) dE aC aE [.string aE] (fun _ => True) (fun _ => False) rfl rfl ?aP (fun _ hk => hk.elim) ?aF ?aO ?aB ?aS ?aL ?_
   (case aP => exact rfl)
   (case aB => exact (be_ HB.out))
   (case aF => exact (fun _ _ => trivial))
   (case aO => exact (kr_ aQ.out))
   (case aS => exact (below_size (be_ HB.out)))
   (case aL => have := cT.out; omega)
   intro eJ fE ho hb hg hat
   rw [← cR.out] at ho
   have cI := q_ (hb)
   have cH := q_ (ho)
   clear HB
   clear aQ
   have HB := cI
   have cV := cH
   clear cI cH
   clear ho hb hg hat
   refine hK.out _ _ trivial (fun hD => ?_)
   clear hK K
   refine nm_ ?_
   refine p_ 13 4 hT ?_
   refine done_ (done_of hT.out (by kernel_rfl)) ?_
   try go_wp2
   go_ret
   exact ⟨_, rf_, kr_ cV.out, be_ HB.out⟩
mutual
def spec_ProveBetween.j1 : Nat → List (S45) → ByteArray → ByteArray → Int → Int → Int → Option (Int × Int × (List (S52)))
 | 0, _, _, _, _, _, _ => none
 | k + 1, x0, x1, x2, x8, aA, aB => spec_ProveBetween.l1 k x0 x1 x2 x8 x8 aA aB
def spec_ProveBetween.j3 : Nat → List (S45) → Int → Int → Int → Int → Option (Int × Int × (List (S52)))
 | 0, _, _, _, _, _ => none
 | k + 1, x0, x8, x9, aA, aB => if x8 > 0 then (spec_ProveBetween.j4 k x0 (wrap64 (x8 - 1)) x9 aA aB) else (spec_ProveBetween.j4 k x0 x8 x9 aA aB)
def spec_ProveBetween.j4 : Nat → List (S45) → Int → Int → Int → Int → Option (Int × Int × (List (S52)))
 | 0, _, _, _, _, _ => none
 | k + 1, x0, x8, x9, aA, aB => if x9 < (x0.length : Int) then (spec_ProveBetween.j5 k x0 x8 (wrap64 (x9 + 1)) aA aB) else (spec_ProveBetween.j5 k x0 x8 x9 aA aB)
def spec_ProveBetween.j5 : Nat → List (S45) → Int → Int → Int → Int → Option (Int × Int × (List (S52)))
 | 0, _, _, _, _, _ => none
 | k + 1, x0, x8, x9, aA, aB => if x8 < x9 then (spec_ProveBetween.j6 k x0 x8 x9 aA x8) else (spec_ProveBetween.j6 k x0 x8 x9 aA aB)
def spec_ProveBetween.j6 : Nat → List (S45) → Int → Int → Int → Int → Option (Int × Int × (List (S52)))
 | 0, _, _, _, _, _ => none
 | k + 1, x0, x8, x9, aA, aB => spec_ProveBetween.l2 k x0 x9 x8 aA aB ([] : List (S52))
def spec_ProveBetween.l2 : Nat → List (S45) → Int → Int → Int → Int → List (S52) → Option (Int × Int × (List (S52)))
 | 0, _, _, _, _, _, _ => none
 | k + 1, x0, x9, aD, aA, aB, aC => if aD < x9 then (if 0 ≤ aD then (if aD < (x0.length : Int) then ((spec_l4Path.f k x0 aD).bind fun aE => (if aC.length < 2513169434916 then (spec_ProveBetween.l2 k x0 x9 (wrap64 (aD + 1)) aA aB (aC ++ [(⟨(⟨(rd_T45 x0 aD).f0, (rd_T45 x0 aD).f1⟩ : S45), aE⟩ : S52)])) else (none))) else (none)) else (none)) else (some (aA, aB, aC))
def spec_ProveBetween.l1 : Nat → List (S45) → ByteArray → ByteArray → Int → Int → Int → Int → Option (Int × Int × (List (S52)))
 | 0, _, _, _, _, _, _, _ => none
 | k + 1, x0, x1, x2, x8, x9, aA, aB => if x9 < (x0.length : Int) then (if 0 ≤ x9 then ((spec_l3In.f ((rd_T45 x0 x9).f0) x1 x2).bind fun aF => (if aF = true then (spec_ProveBetween.l1 k x0 x1 x2 x8 (wrap64 (x9 + 1)) aA aB) else (spec_ProveBetween.j3 k x0 x8 x9 aA aB))) else (none)) else (spec_ProveBetween.j3 k x0 x8 x9 aA aB)
def spec_ProveBetween.l0 : Nat → List (S45) → ByteArray → ByteArray → Int → Int → Int → Option (Int × Int × (List (S52)))
 | 0, _, _, _, _, _, _ => none
 | k + 1, x0, x1, x2, x8, aA, aB => if x8 < (x0.length : Int) then (if 0 ≤ x8 then (if (Op.bytesLess (((rd_T45 x0 x8).f0).toList) x1.toList) = true then (spec_ProveBetween.l0 k x0 x1 x2 (wrap64 (x8 + 1)) aA aB) else (spec_ProveBetween.j1 k x0 x1 x2 x8 aA aB)) else (none)) else (spec_ProveBetween.j1 k x0 x1 x2 x8 aA aB)
end
def spec_ProveBetween.f (k : Nat) (l0 : List (S45)) (a1 : ByteArray) (a2 : ByteArray) : Option (Int × Int × (List (S52))) := (spec_PairsOk.f k l0).bind fun aA => (if aA = true then (spec_ProveBetween.l0 k l0 a1 a2 0 (l0.length : Int) 0) else (some (0, 0, ([] : List (S52)))))
def spec_ProveBetween.T19 : Bool × List (List Nat × List Nat) := (true, [([], []), ([0], [0]), ([], []), ([], []), ([2, 3], [2, 3]), ([4], [4]), ([], []), ([], []), ([6, 7], [6, 7]), ([5, 8], [5, 8]), ([9], [9]), ([1, 10, 8], [1, 10]), ([0, 1, 2, 3, 4, 5, 6, 7, 8, 9, 10, 11], []), ([12, 11, 11, 0, 1, 2, 3, 4, 5, 6, 7, 8, 9, 10, 11], [11, 12])])
def spec_ProveBetween.B19 : List Nat := [0, 1, 0, 0, 12, 28, 0, 0, 192, 508, 1020, 2047, 4095, 8191]
theorem spec_ProveBetween.tab19 : rtab .any (opsOf Try.f17 19) = spec_ProveBetween.T19 := by kernel_rfl
theorem spec_ProveBetween.bits19 : waitsOk spec_ProveBetween.T19.2 spec_ProveBetween.B19 = true := by kernel_rfl
theorem spec_ProveBetween.calls (k : Nat) (A0 : Option Addr) (c0 : Nat) (l0 : List (S45)) (a1 : ByteArray) (a2 : ByteArray) (r1 : Int) (r2 : Int) (r3 : List (S52)) (w : World) (fJ : Kd.C k45 w A0 l0.length l0) (fR : l0.length ≤ c0) (h : spec_ProveBetween.f k l0 a1 a2 = some (r1, r2, r3)) :
 Calls Try.prog 17 #[.slice A0 l0.length c0, .string a1, .string a2] w fun e w' => ∃ v2_ : Value, e = .returned (.agg #[.int .i64 r1, .int .i64 r2, v2_]) ∧ Kd.S k52 52 w' w.heap.size (fun _ => True) v2_ r3 ∧ Below w.heap.size w w' := by
 have gE := Try.underlying27
 have gD := Try.underlying45
 have gC := Try.underlying52
 have bU := Aside0.mk fJ
 have fE := Aside0.mk fR
 clear fJ fR
 have HB := q_ (Below.refl w.heap.size w)
 have H := h
 clear h
 unfold spec_ProveBetween.f at H
 obtain ⟨eO, A4, H⟩ := bo_ H
 by_cases c5 : eO = true
 ·
  subst c5
  rw [if_pos rfl] at H
  have fD := Aside0.mk H
  clear H
  go_enter Try.func17, Try.ntmps17
  go_upto_block 0 with (first | ((with_reducible refine gate_dst (N := 6) rfl ?_); refine box_event rfl (N := 6) rfl (cs := #[.int .i64 0, .int .i64 0, .slice none 0 0]) (t := 27) hr_ ?_; intro aK hg w7 hbox hb; have aC := q_ (hbox); have aG := ge_ hg (be_ HB.out); replace HB := q_ (below_step (be_ HB.out) hb); clear hb hbox hg) | ((with_reducible refine gate_callee (f := 41) rfl ?_); refine gl_ (some 12) Try.func41 #[.slice A0 l0.length c0] rfl al_ ?_; (with_reducible refine (spec_PairsOk.calls k _ _ l0 true _ ?side1 ?side2 A4.out).mono ?_); (case side1 => exact kc_ (Kd.C_below bU.out HB.out)); (case side2 => exact fE.out); rintro e w8 ⟨rfl, hb⟩; refine ⟨_, rfl, ?_⟩; replace aC := q_ (bb_ aC.out hb); replace HB := q_ (below_step (bs_ HB.out aG.out) hb); (try clear hb)) | ((with_reducible refine gate_dst (N := 7) rfl ?_); refine box_event rfl (N := 7) rfl (cs := #[.int .i64 0, .int .i64 0, .slice none 0 0]) (t := 27) hr_ ?_; intro aQ hg w9 hbox hb; have aA := q_ (hbox); have aJ := ge_ hg (bs_ HB.out aG.out); replace HB := q_ (below_step (bs_ HB.out aG.out) hb); have aI := q_ ((by rw [hg]; exact Nat.ne_of_lt (blk_lt (g := aK) (o := .cells #[.int .i64 0, .int .i64 0, .slice none 0 0] 27 (0, 0)) (bk_ aC.out)) : aK ≠ aQ)); have aR := q_ ((by rw [hg]; exact Nat.ne_of_gt (blk_lt (g := aK) (o := .cells #[.int .i64 0, .int .i64 0, .slice none 0 0] 27 (0, 0)) (bk_ aC.out)) : aQ ≠ aK)); replace aC := q_ (bb_ aC.out hb); clear hb hbox hg; have fP := aR.out; have fM := aI.out; obtain ⟨eJ, eI, eH, dU, dT, dS⟩ := bx3_ aA.out))
  (try simp only [Act.put, sa_, sz_, ss_])
  go_cut [8] (fun v8 wc => ∃ (kq : Nat) (bC : Int), v8 = .int .i64 bC ∧ Aside0 (spec_ProveBetween.j1 kq l0 a1 a2 bC (l0.length : Int) 0 = some (r1, r2, r3)) ∧ Aside0 (kq ≤ k) ∧ Aside0 (wc.heap[aK]? = some (.cells #[.int .i64 0, .int .i64 0, (.slice none 0 0)] 27 (0, 0))) ∧ Aside0 (wc.heap[aQ]? = some (.cells #[.int .i64 (l0.length : Int), .int .i64 0, (.slice none 0 0)] 27 (0, 0))) ∧ Aside0 (Below w.heap.size w wc))
  case first =>
   have H := fD.out
   clear fD
   have H' := Aside0.mk H
   clear H
   go_wp2
   go_loopg [8] k (fun kq v8 w' => ∃ (aW : Int), v8 = .int .i64 aW ∧ Aside0 (spec_ProveBetween.l0 kq l0 a1 a2 aW (l0.length : Int) 0 = some (r1, r2, r3)) ∧ Aside0 (kq ≤ k) ∧ Aside0 (w'.heap[aK]? = some (.cells #[.int .i64 0, .int .i64 0, (.slice none 0 0)] 27 (0, 0))) ∧ Aside0 (w'.heap[aQ]? = some (.cells #[.int .i64 (l0.length : Int), .int .i64 0, (.slice none 0 0)] 27 (0, 0))) ∧ Aside0 (Below w.heap.size w w'))
   case atStart => exact ⟨(0), rs_, H', ⟨Nat.le_refl _⟩, ⟨by (with_reducible repeat (first | refine blk_drewN ?_ _ | refine blk_drew ?_ | refine blk_alloc ?_ _)); refine blk_far ?_ aI.out _; (with_reducible repeat (first | refine blk_drewN ?_ _ | refine blk_drew ?_ | refine blk_alloc ?_ _)); refine blk_far ?_ aI.out _; (with_reducible repeat (first | refine blk_drewN ?_ _ | refine blk_drew ?_ | refine blk_alloc ?_ _)); refine blk_far ?_ aI.out _; (with_reducible repeat (first | refine blk_drewN ?_ _ | refine blk_drew ?_ | refine blk_alloc ?_ _)); exact aC.out⟩, ⟨by (with_reducible repeat (first | refine blk_drewN ?_ _ | refine blk_drew ?_ | refine blk_alloc ?_ _)); refine blk_put (cs := #[.int .i64 (l0.length : Int), .int .i64 0, .slice none 0 0]) ?_ 2 _ rfl; (with_reducible repeat (first | refine blk_drewN ?_ _ | refine blk_drew ?_ | refine blk_alloc ?_ _)); refine blk_put (cs := #[.int .i64 (l0.length : Int), .int .i64 0, .slice none 0 0]) ?_ 1 _ rfl; (with_reducible repeat (first | refine blk_drewN ?_ _ | refine blk_drew ?_ | refine blk_alloc ?_ _)); refine blk_put (cs := #[.int .i64 0, .int .i64 0, .slice none 0 0]) ?_ 0 _ rfl; (with_reducible repeat (first | refine blk_drewN ?_ _ | refine blk_drew ?_ | refine blk_alloc ?_ _)); exact aA.out⟩, ⟨b2_ HB.out aG.out aJ.out⟩⟩
   case round =>
    clear H'
    obtain ⟨aW, rfl, HA, eM, aC, aA, HB⟩ := hrel
    cases gk with
    | zero => exact absurd HA.out (by simp [spec_ProveBetween.l0])
    | succ k1 =>
     have H := HA.out
     clear HA
     simp only [spec_ProveBetween.l0] at H
     by_cases cL : aW < (l0.length : Int)
     rotate_left
     ·
      rw [if_neg cL] at H
      have bH := decide_eq_false cL
      clear cL
      (first | rw [bH] | (simp only [i64_w, i32_w]; rw [bH]) | skip)
      have H' := Aside0.mk H
      clear H
      go_wp2
      go_meet
      case rel => exact ⟨_, (aW), rs_, H', ⟨by have := eM.out; first | omega | exact Nat.le_refl _⟩, ⟨bk_ aC.out⟩, ⟨bk_ aA.out⟩, ⟨b2_ HB.out aG.out aJ.out⟩⟩
     rw [if_pos cL] at H
     have bH := decide_eq_true cL
     clear cL
     (first | rw [bH] | (simp only [i64_w, i32_w]; rw [bH]) | skip)
     obtain ⟨fV, H⟩ := id_ H
     by_cases cK : (Op.bytesLess (((rd_T45 l0 aW).f0).toList) a1.toList) = true
     rotate_left
     ·
      rw [if_neg cK] at H
      have cV : (Op.bytesLess (((rd_T45 l0 aW).f0).toList) a1.toList) = false := by simpa using cK
      clear cK
      have H' := Aside0.mk H
      clear H
      obtain ⟨cX, cA, bS, bR, eS, eQ⟩ := at2_ HB.out (at_T45 bU.out aW)
      cases cA
      go_wp2
      go_meet
      case rel => exact ⟨_, (aW), rs_, H', ⟨by have := eM.out; first | omega | exact Nat.le_refl _⟩, ⟨bk_ aC.out⟩, ⟨bk_ aA.out⟩, ⟨b2_ HB.out aG.out aJ.out⟩⟩
     rw [if_pos cK] at H
     have cV : (Op.bytesLess (((rd_T45 l0 aW).f0).toList) a1.toList) = true := cK
     clear cK
     have H' := Aside0.mk H
     clear H
     obtain ⟨cX, cA, bS, bR, eS, eQ⟩ := at2_ HB.out (at_T45 bU.out aW)
     cases cA
     go_wp2
     go_roundg k1
     case measure => have := eM.out; omega
     case rel => exact ⟨(wrap64 (aW + 1)), rs_, H', ⟨by have := eM.out; omega⟩, ⟨bk_ aC.out⟩, ⟨bk_ aA.out⟩, ⟨b2_ HB.out aG.out aJ.out⟩⟩
  case rest =>
   clear fD
   obtain ⟨kq, bC, rfl, HA, bN, aC, aA, HB⟩ := hcut
   cases kq with
   | zero => exact absurd HA.out (by simp [spec_ProveBetween.j1])
   | succ eT =>
    have H := HA.out
    clear HA
    simp only [spec_ProveBetween.j1] at H
    have cE := Aside0.mk H
    clear H
    go_upto_block 2 with (fail)
    go_cut [9] (fun v9 wc => ∃ (kq : Nat) (bB : Int), v9 = .int .i64 bB ∧ Aside0 (spec_ProveBetween.j3 kq l0 bC bB (l0.length : Int) 0 = some (r1, r2, r3)) ∧ Aside0 (kq ≤ eT) ∧ Aside0 (wc.heap[aK]? = some (.cells #[.int .i64 0, .int .i64 0, (.slice none 0 0)] 27 (0, 0))) ∧ Aside0 (wc.heap[aQ]? = some (.cells #[.int .i64 (l0.length : Int), .int .i64 0, (.slice none 0 0)] 27 (0, 0))) ∧ Aside0 (Below w.heap.size w wc))
    case first =>
     have H := cE.out
     clear cE
     have H' := Aside0.mk H
     clear H
     go_wp2
     go_loopg [9] eT (fun kq v9 w' => ∃ (bA : Int), v9 = .int .i64 bA ∧ Aside0 (spec_ProveBetween.l1 kq l0 a1 a2 bC bA (l0.length : Int) 0 = some (r1, r2, r3)) ∧ Aside0 (kq ≤ eT) ∧ Aside0 (w'.heap[aK]? = some (.cells #[.int .i64 0, .int .i64 0, (.slice none 0 0)] 27 (0, 0))) ∧ Aside0 (w'.heap[aQ]? = some (.cells #[.int .i64 (l0.length : Int), .int .i64 0, (.slice none 0 0)] 27 (0, 0))) ∧ Aside0 (Below w.heap.size w w'))
     case atStart => exact ⟨(bC), rs_, H', ⟨Nat.le_refl _⟩, ⟨bk_ aC.out⟩, ⟨bk_ aA.out⟩, ⟨b2_ HB.out aG.out aJ.out⟩⟩
     case round =>
      clear H'
      obtain ⟨bA, rfl, HA, eL, aC, aA, HB⟩ := hrel
      cases gk with
      | zero => exact absurd HA.out (by simp [spec_ProveBetween.l1])
      | succ k2 =>
       have H := HA.out
       clear HA
       simp only [spec_ProveBetween.l1] at H
       by_cases cJ : bA < (l0.length : Int)
       rotate_left
       · rw [if_neg cJ] at H
         have bG := decide_eq_false cJ
         clear cJ
         (first | rw [bG] | (simp only [i64_w, i32_w]; rw [bG]) | skip)
         have H' := Aside0.mk H
         clear H
         go_wp2
         go_meet
         case rel => exact ⟨_, (bA), rs_, H', ⟨by have := bN.out; have := eL.out; first | omega | exact Nat.le_refl _⟩, ⟨bk_ aC.out⟩, ⟨bk_ aA.out⟩, ⟨b2_ HB.out aG.out aJ.out⟩⟩
       rw [if_pos cJ] at H
       have bG := decide_eq_true cJ
       clear cJ
       (first | rw [bG] | (simp only [i64_w, i32_w]; rw [bG]) | skip)
       obtain ⟨fU, H⟩ := id_ H
       obtain ⟨eN, fX, H⟩ := bo_ H
       by_cases eK : eN = true
       · subst eK
         rw [if_pos rfl] at H
         have H' := Aside0.mk H
         clear H
         obtain ⟨cW, bZ, bQ, bP, eR, eP⟩ := at2_ HB.out (at_T45 bU.out bA)
         cases bZ
         go_wp2_with (first | (go_at_call 30; (with_reducible refine (spec_l3In.calls ((rd_T45 l0 bA).f0) a1 a2 true _ fX.out).mono ?_); rintro e w' ⟨rfl, ⟨nd, rfl⟩⟩))
         go_roundg k2
         case measure => have := bN.out; have := eL.out; omega
         case rel => exact ⟨(wrap64 (bA + 1)), rs_, H', ⟨by have := bN.out; have := eL.out; omega⟩, ⟨bk_ aC.out⟩, ⟨bk_ aA.out⟩, ⟨b2_ HB.out aG.out aJ.out⟩⟩
       replace eK := Bool.eq_false_iff.mpr eK
       subst eK
       rw [if_neg (show ¬ (false = true) by decide)] at H
       have H' := Aside0.mk H
       clear H
       obtain ⟨cW, bZ, bQ, bP, eR, eP⟩ := at2_ HB.out (at_T45 bU.out bA)
       cases bZ
       go_wp2_with (first | (go_at_call 30; (with_reducible refine (spec_l3In.calls ((rd_T45 l0 bA).f0) a1 a2 false _ fX.out).mono ?_); rintro e w' ⟨rfl, ⟨nd, rfl⟩⟩))
       go_meet
       case rel => exact ⟨_, (bA), rs_, H', ⟨by have := bN.out; have := eL.out; first | omega | exact Nat.le_refl _⟩, ⟨bk_ aC.out⟩, ⟨bk_ aA.out⟩, ⟨b2_ HB.out aG.out aJ.out⟩⟩
    case rest =>
     clear cE
     obtain ⟨kq, bB, rfl, HA, bI, aC, aA, HB⟩ := hcut
     cases kq with
     | zero => exact absurd HA.out (by simp [spec_ProveBetween.j3])
     | succ eW =>
      have H := HA.out
      clear HA
      simp only [spec_ProveBetween.j3] at H
      have cD := Aside0.mk H
      clear H
      go_upto_if 51 with (fail)
      go_cut [8] (fun v8 wc => ∃ (kq : Nat) (aV : Int), v8 = .int .i64 aV ∧ Aside0 (spec_ProveBetween.j4 kq l0 aV bB (l0.length : Int) 0 = some (r1, r2, r3)) ∧ Aside0 (kq ≤ eW) ∧ Aside0 (wc.heap[aK]? = some (.cells #[.int .i64 0, .int .i64 0, (.slice none 0 0)] 27 (0, 0))) ∧ Aside0 (wc.heap[aQ]? = some (.cells #[.int .i64 (l0.length : Int), .int .i64 0, (.slice none 0 0)] 27 (0, 0))) ∧ Aside0 (Below w.heap.size w wc))
      case first =>
       have H := cD.out
       clear cD
       by_cases cI : bC > 0
       rotate_left
       · rw [if_neg cI] at H
         have bF : decide (0 < bC) = false := decide_eq_false cI
         clear cI
         (first | rw [bF] | (simp only [i64_w, i32_w]; rw [bF]) | skip)
         have H' := Aside0.mk H
         clear H
         go_wp2
         go_meet
         case rel => exact ⟨_, (bC), rs_, H', ⟨by have := bN.out; have := bI.out; first | omega | exact Nat.le_refl _⟩, ⟨bk_ aC.out⟩, ⟨bk_ aA.out⟩, ⟨b2_ HB.out aG.out aJ.out⟩⟩
       rw [if_pos cI] at H
       have bF : decide (0 < bC) = true := decide_eq_true cI
       clear cI
       (first | rw [bF] | (simp only [i64_w, i32_w]; rw [bF]) | skip)
       have H' := Aside0.mk H
       clear H
       go_wp2
       go_meet
       case rel => exact ⟨_, (wrap64 (bC - 1)), rs_, H', ⟨by have := bN.out; have := bI.out; first | omega | exact Nat.le_refl _⟩, ⟨bk_ aC.out⟩, ⟨bk_ aA.out⟩, ⟨b2_ HB.out aG.out aJ.out⟩⟩
      case rest =>
       clear cD
       obtain ⟨kq, aV, rfl, HA, bM, aC, aA, HB⟩ := hcut
       cases kq with
       | zero => exact absurd HA.out (by simp [spec_ProveBetween.j4])
       | succ eV =>
        have H := HA.out
        clear HA
        simp only [spec_ProveBetween.j4] at H
        have cC := Aside0.mk H
        clear H
        go_upto_if 57 with (fail)
        go_cut [9] (fun v9 wc => ∃ (kq : Nat) (aZ : Int), v9 = .int .i64 aZ ∧ Aside0 (spec_ProveBetween.j5 kq l0 aV aZ (l0.length : Int) 0 = some (r1, r2, r3)) ∧ Aside0 (kq ≤ eV) ∧ Aside0 (wc.heap[aK]? = some (.cells #[.int .i64 0, .int .i64 0, (.slice none 0 0)] 27 (0, 0))) ∧ Aside0 (wc.heap[aQ]? = some (.cells #[.int .i64 (l0.length : Int), .int .i64 0, (.slice none 0 0)] 27 (0, 0))) ∧ Aside0 (Below w.heap.size w wc))
        case first =>
         have H := cC.out
         clear cC
         by_cases cH : bB < (l0.length : Int)
         rotate_left
         · rw [if_neg cH] at H
           have bE := decide_eq_false cH
           clear cH
           (first | rw [bE] | (simp only [i64_w, i32_w]; rw [bE]) | skip)
           have H' := Aside0.mk H
           clear H
           go_wp2
           go_meet
           case rel => exact ⟨_, (bB), rs_, H', ⟨by have := bN.out; have := bI.out; have := bM.out; first | omega | exact Nat.le_refl _⟩, ⟨bk_ aC.out⟩, ⟨bk_ aA.out⟩, ⟨b2_ HB.out aG.out aJ.out⟩⟩
         rw [if_pos cH] at H
         have bE := decide_eq_true cH
         clear cH
         (first | rw [bE] | (simp only [i64_w, i32_w]; rw [bE]) | skip)
         have H' := Aside0.mk H
         clear H
         go_wp2
         go_meet
         case rel => exact ⟨_, (wrap64 (bB + 1)), rs_, H', ⟨by have := bN.out; have := bI.out; have := bM.out; first | omega | exact Nat.le_refl _⟩, ⟨bk_ aC.out⟩, ⟨bk_ aA.out⟩, ⟨b2_ HB.out aG.out aJ.out⟩⟩
        case rest =>
         clear cC
         obtain ⟨kq, aZ, rfl, HA, bT, aC, aA, HB⟩ := hcut
         cases kq with
         | zero => exact absurd HA.out (by simp [spec_ProveBetween.j5])
         | succ eU =>
          have H := HA.out
          clear HA
          simp only [spec_ProveBetween.j5] at H
          have cB := Aside0.mk H
          clear H
          go_upto_if 62 with (fail)
          go_cut [] (fun wc => ∃ (kq : Nat) (aE : Int), Aside0 (spec_ProveBetween.j6 kq l0 aV aZ (l0.length : Int) aE = some (r1, r2, r3)) ∧ Aside0 (kq ≤ eU) ∧ Aside0 (wc.heap[aK]? = some (.cells #[.int .i64 0, .int .i64 0, (.slice none 0 0)] 27 (0, 0))) ∧ Aside0 (wc.heap[aQ]? = some (.cells #[.int .i64 (l0.length : Int), .int .i64 aE, (.slice none 0 0)] 27 (0, 0))) ∧ Aside0 (Below w.heap.size w wc))
          case first =>
           have H := cB.out
           clear cB
           by_cases cG : aV < aZ
           rotate_left
           · rw [if_neg cG] at H
             have bD := decide_eq_false cG
             clear cG
             (first | rw [bD] | (simp only [i64_w, i32_w]; rw [bD]) | skip)
             have H' := Aside0.mk H
             clear H
             go_wp2
             go_meet
             case rel => exact ⟨_, (0), H', ⟨by have := bN.out; have := bI.out; have := bM.out; have := bT.out; first | omega | exact Nat.le_refl _⟩, ⟨bk_ aC.out⟩, ⟨bk_ aA.out⟩, ⟨b2_ HB.out aG.out aJ.out⟩⟩
           rw [if_pos cG] at H
           have bD := decide_eq_true cG
           clear cG
           (first | rw [bD] | (simp only [i64_w, i32_w]; rw [bD]) | skip)
           have H' := Aside0.mk H
           clear H
           have fO := aR.out
           have fL := aI.out
           obtain ⟨eG, eF, eE, dR, dQ, dP⟩ := bx3_ aA.out
           go_wp2
           go_meet
           case rel => exact ⟨_, (aV), H', ⟨by have := bN.out; have := bI.out; have := bM.out; have := bT.out; first | omega | exact Nat.le_refl _⟩, ⟨by (with_reducible repeat (first | refine blk_drewN ?_ _ | refine blk_drew ?_ | refine blk_alloc ?_ _)); refine blk_far ?_ aI.out _; (with_reducible repeat (first | refine blk_drewN ?_ _ | refine blk_drew ?_ | refine blk_alloc ?_ _)); exact aC.out⟩, ⟨by (with_reducible repeat (first | refine blk_drewN ?_ _ | refine blk_drew ?_ | refine blk_alloc ?_ _)); refine blk_put (cs := #[.int .i64 (l0.length : Int), .int .i64 0, .slice none 0 0]) ?_ 1 _ rfl; (with_reducible repeat (first | refine blk_drewN ?_ _ | refine blk_drew ?_ | refine blk_alloc ?_ _)); exact aA.out⟩, ⟨b2_ HB.out aG.out aJ.out⟩⟩
          case rest =>
           clear cB
           obtain ⟨kq, aE, HA, dA, aC, aA, HB⟩ := hcut
           cases kq with
           | zero => exact absurd HA.out (by simp [spec_ProveBetween.j6])
           | succ cM =>
            have H := HA.out
            clear HA
            simp only [spec_ProveBetween.j6] at H
            have H' := Aside0.mk H
            clear H
            go_wp2
            go_loopg [10] cM (fun kq gB w' => ∃ (aH : Int) (aM : List (S52)) (aN : Value), gB = .int .i64 aH ∧ Aside0 (spec_ProveBetween.l2 kq l0 aZ aH (l0.length : Int) aE aM = some (r1, r2, r3)) ∧ Aside0 (kq ≤ cM) ∧ Aside0 (Kd.S k52 52 w' w.heap.size (fun _ => True) aN aM) ∧ Aside0 (w'.heap[aK]? = some (.cells #[.int .i64 0, .int .i64 0, (.slice none 0 0)] 27 (0, 0))) ∧ Aside0 (w'.heap[aQ]? = some (.cells #[.int .i64 (l0.length : Int), .int .i64 aE, aN] 27 (0, 0))) ∧ Aside0 (Below w.heap.size w w'))
            case atStart => exact ⟨(aV), (([] : List (S52))), (.slice none 0 0), rs_, H', ⟨Nat.le_refl _⟩, ⟨by first | exact Kd.S_nil _ _ _ _ _ | exact Kd.N_nil _ _ _ _ _ | exact Kd.V_nil _ _ _ _ _ | exact Kd.Q_nil _ _ _ _ _ | exact Kd.R_nil _ _ _ _ _⟩, ⟨bk_ aC.out⟩, ⟨bk_ aA.out⟩, ⟨b2_ HB.out aG.out aJ.out⟩⟩
            case round =>
             clear H'
             obtain ⟨aH, aM, aN, rfl, HA, fW, aD, aC, aA, HB⟩ := hrel
             cases gk with
             | zero => exact absurd HA.out (by simp [spec_ProveBetween.l2])
             | succ k6 =>
              have H := HA.out
              clear HA
              simp only [spec_ProveBetween.l2] at H
              by_cases cF : aH < aZ
              rotate_left
              · rw [if_neg cF] at H
                have cU := decide_eq_false cF
                clear cF
                simp only [Option.some.injEq, Prod.mk.injEq] at H
                obtain ⟨rfl, rfl, rfl⟩ := H
                have fN := aR.out
                have fK := aI.out
                obtain ⟨eD, eC, eB, dO, dN, dM⟩ := bx3_ aA.out
                obtain ⟨eA, dZ, dY, dL, dK, dJ⟩ := bx3_ aC.out
                obtain ⟨dB, cR, fB⟩ := Kd.S_slice aD.out
                subst fB
                go_wp2
                refine bodyPost_ret (results_cell_row rfl _ _ aK 27 #[.int .i64 (l0.length : Int), .int .i64 aE, .slice dB aM.length cR] (0, 0) _ rfl (by (with_reducible repeat (first | refine blk_drewN ?_ _ | refine blk_drew ?_ | refine blk_alloc ?_ _)); refine blk_put (cs := #[.int .i64 (l0.length : Int), .int .i64 aE, .slice none 0 0]) ?_ 2 _ rfl; (with_reducible repeat (first | refine blk_drewN ?_ _ | refine blk_drew ?_ | refine blk_alloc ?_ _)); refine blk_put (cs := #[.int .i64 (l0.length : Int), .int .i64 0, .slice none 0 0]) ?_ 1 _ rfl; (with_reducible repeat (first | refine blk_drewN ?_ _ | refine blk_drew ?_ | refine blk_alloc ?_ _)); refine blk_put (cs := #[.int .i64 0, .int .i64 0, .slice none 0 0]) ?_ 0 _ rfl; (with_reducible repeat (first | refine blk_drewN ?_ _ | refine blk_drew ?_ | refine blk_alloc ?_ _)); exact aC.out) Try.underlying27 rfl (by kernel_rfl)) rfl ?_
                exact ⟨_, rf_, by (with_reducible repeat (first | apply Kd.S_alloc | apply Kd.S_drewN | apply Kd.S_drew)); exact Kd.S_mono (Kd.S_far (p := ⟨aK, 2, none⟩) (Kd.S_far (p := ⟨aK, 1, none⟩) (Kd.S_far (p := ⟨aK, 0, none⟩) (Kd.S_types aD.out aC.out (by decide)) (fun _ hk => hk.2) (.int .i64 (l0.length : Int))) (fun _ hk => hk.2) (.int .i64 aE)) (fun _ hk => hk.2) (.slice dB aM.length cR)) (fun _ hk => trivial), b2_ HB.out aG.out aJ.out⟩
              rw [if_pos cF] at H
              have cU := decide_eq_true cF
              clear cF
              obtain ⟨fT, H⟩ := id_ H
              obtain ⟨fS, H⟩ := id_ H
              obtain ⟨bL, gG, H⟩ := bo_ H
              obtain ⟨cZ, H⟩ := ia_ H
              obtain ⟨bW, bO⟩ : ∃ y_ : List (S52), y_ = (aM ++ [(⟨(⟨(rd_T45 l0 aH).f0, (rd_T45 l0 aH).f1⟩ : S45), bL⟩ : S52)]) := ⟨_, rfl⟩
              rw [← bO] at H
              have cY := Aside0.mk bO
              clear bO
              have H' := Aside0.mk H
              clear H
              try go_wp2
              replace aD := q_ (Kd.S_drew aD.out)
              replace aC := q_ (blk_drew aC.out)
              replace aA := q_ (blk_drew aA.out)
              replace HB := q_ (below_drew1 HB.out)
              have bY : 0 ≤ (aH : Int) := od_
              have bX : aH < (l0.length : Int) := od_
              obtain ⟨bJ, fC, aY, aX⟩ := at_T45 bU.out aH bY bX
              have aT := aX
              have aU := aY
              cases fC
              replace aY := hc_ HB.out aY
              replace aX := hc_ HB.out aX
              replace bY := eq_true bY
              replace bX := eq_true bX
              refine sr_ (fun w' => w'.cell? ⟨aQ, 0, none⟩ = some (.int .i64 (l0.length : Int)) ∧ w'.cell? ⟨aQ, 1, none⟩ = some (.int .i64 aE) ∧ w'.cell? ⟨aQ, 2, none⟩ = some (aN) ∧ w'.cell? (bJ.add ((aH).toNat * 2)) = some (.string ((rd_T45 l0 aH).f0)) ∧ w'.cell? ⟨(bJ.add ((aH).toNat * 2)).block, (bJ.add ((aH).toNat * 2)).off + 1, none⟩ = some (.string ((rd_T45 l0 aH).f1))) [13] spec_ProveBetween.tab19 spec_ProveBetween.bits19 ⟨(blk_cell aA.out 0).trans rfl, (blk_cell aA.out 1).trans rfl, (blk_cell aA.out 2).trans rfl, (hc_ HB.out aU), (hc_ HB.out aT)⟩ (fun hD hT hW => ?_)
              generalize wr.drew = gK at aD aC aA HB aY aX hD ⊢
              refine p_ 0 71 hT ?_; refine p_ 2 73 hT ?_; refine p_ 3 74 hT ?_; refine p_ 4 75 hT ?_; refine p_ 6 77 hT ?_; refine p_ 7 78 hT ?_; refine k_ 1 72 hT hW hD ?_; refine k_ 5 76 hT hW hD ?_
              refine oc_ 8 79 (bq_ 9 5) hT Try.func42 #[.slice (some bJ) l0.length c0, .int .i64 aH] ?_
              with_reducible refine (spec_l4Path.calls k6 _ _ l0 aH bL _ ?side1 ?side2 gG.out).mono ?_
              (case side1 => exact kc_ (Kd.C_below bU.out HB.out))
              (case side2 => exact fE.out)
              rintro e gJ ⟨gA, rfl, eX, hb⟩
              refine ⟨_, rfl, ?_⟩
              replace aD := q_ (Kd.S_elder' (ks_ aD.out) (Kd.R_base eX) hb)
              have bK := q_ (Kd.R_lower eX (below_size (b2_ HB.out aG.out aJ.out)))
              replace aC := q_ (bb_ aC.out hb)
              replace aA := q_ (bb_ aA.out hb)
              replace HB := q_ (below_step (b2_ HB.out aG.out aJ.out) hb)
              (try clear hb)
              (try clear gL)
              (try clear hk)
              (try clear hi)
              (try clear eX)
              obtain ⟨dD, cT, cQ⟩ := Kd.R_slice bK.out
              (first | subst cQ | (injection cQ with cO fA cN; have eZ := cO.symm; have eY := cN.symm; clear cO fA cN; subst eZ; subst eY))
              refine ⟨⟨(blk_cell aA.out 0).trans rfl, (blk_cell aA.out 1).trans rfl, (blk_cell aA.out 2).trans rfl, (hc_ HB.out aU), (hc_ HB.out aT)⟩, fun hD => nm_ ?_⟩
              refine p_ 9 80 hT ?_
              refine on_ 10 (some 81) (bq_ 11 3) hT (fun K hK => ?_)
              refine value_ (w1 := ?_) (v := ?_) (by rfl) rfl ?_ ?_
              rotate_left 2
              · go_simp
                constructor
                · rfl
                · rfl
              refine hK.out _ _ ⟨(blk_cell (blk_alloc aA.out _) 0).trans rfl, (blk_cell (blk_alloc aA.out _) 1).trans rfl, (blk_cell (blk_alloc aA.out _) 2).trans rfl, (World.cell?_alloc_lt _ _ _ (World.block_lt_of_cell? _ _ ((hc_ HB.out aU)))).trans ((hc_ HB.out aU)), (World.cell?_alloc_lt _ _ _ (World.block_lt_of_cell? _ _ ((hc_ HB.out aT)))).trans ((hc_ HB.out aT))⟩ (fun hD => ?_)
              clear hK K
              refine nm_ ?_
              refine on_ 11 (some 82) (bq_ 12 2) hT (fun K hK => ?_)
              refine Kd.S_append_step k52 (w0 := w) w.heap.size (by rfl) (.tmp 72) (.tmp 81) 25 52 (.agg #[(.string ⟨#[]⟩), (.string ⟨#[]⟩), (.slice none 0 0)]) 56 rfl Try.underlying25 info52 rfl (by decide) (by omega) aN aM (⟨(⟨(rd_T45 l0 aH).f0, (rd_T45 l0 aH).f1⟩ : S45), bL⟩ : S52) [.string ((rd_T45 l0 aH).f0), .string ((rd_T45 l0 aH).f1), .slice dD bL.length cT] (fun _ => True) (fun k_ => some k_ = (.slice dD bL.length cT : Value).ownBlock) rfl rfl ?aP (fun k_ hk_ => ((Kd.R_mono (ok' := fun k_ => ((fun _ => True)) k_ ∧ some k_ ≠ (aN : Value).ownBlock) (Kd.R_apart' (bK.out) (Kd.S_typed aD.out) (by decide)) (fun k_ hk => ⟨trivial, hk.2⟩))).1 k_ hk_.symm) ?aF ?aO ?aB ?aS ?aL ?_
              (case aP => exact k52_mkM _ _ _ (⟨(⟨(rd_T45 l0 aH).f0, (rd_T45 l0 aH).f1⟩ : S45), bL⟩ : S52) (Kd.R_mono (Kd.R_tight rfl (Kd.R_mono (ok' := fun k_ => ((fun _ => True)) k_ ∧ some k_ ≠ (aN : Value).ownBlock) (Kd.R_apart' (bK.out) (Kd.S_typed aD.out) (by decide)) (fun k_ hk => ⟨trivial, hk.2⟩))) (fun _ h_ => h_)))
              (case aB => exact (b2_ HB.out aG.out aJ.out))
              (case aF => exact (fun _ _ => trivial))
              (case aO => exact (by (with_reducible repeat (first | apply Kd.S_alloc | apply Kd.S_drewN | apply Kd.S_drew)); exact Kd.S_mono aD.out (fun k_ hk => ⟨trivial, fun e_ => hk.2 e_⟩)))
              (case aS => exact (below_size (b2_ HB.out aG.out aJ.out)))
              (case aL => have := cZ.out; omega)
              intro fZ fY ho hb hg hat
              rw [← cY.out] at ho
              have fI := q_ (blk_grown (g := aK) (o := .cells #[.int .i64 0, .int .i64 0, .slice none 0 0] 27 (0, 0)) (bk_ aC.out) hg (Kd.S_ne aD.out aC.out (by decide)))
              have fH := q_ (blk_grown (g := aQ) (o := .cells #[.int .i64 (l0.length : Int), .int .i64 aE, aN] 27 (0, 0)) (bk_ aA.out) hg (Kd.S_ne aD.out aA.out (by decide)))
              have fG := q_ (hb)
              have fF := q_ (ho)
              clear aC
              clear aA
              clear HB
              clear aD
              clear bK
              have aC := fI
              have aA := fH
              have HB := fG
              have bV := fF
              clear fI fH fG fF
              clear ho hb hg hat
              obtain ⟨dC, cS, cP⟩ := Kd.S_slice bV.out
              (first | subst cP | (injection cP with cO fA cN; have eZ := cO.symm; have eY := cN.symm; clear cO fA cN; subst eZ; subst eY))
              refine hK.out _ _ ⟨(blk_cell aA.out 0).trans rfl, (blk_cell aA.out 1).trans rfl, (blk_cell aA.out 2).trans rfl, (hc_ HB.out aU), (hc_ HB.out aT)⟩ (fun hD => ?_)
              clear hK K
              refine nm_ ?_
              refine p_ 12 83 hT ?_
              refine last_ (i := 13) (N := none) (bq_ 14 0) rfl rfl (one_of hT.out (by kernel_rfl)) (by decide) (fun K hK => ?_)
              have gF : fY.cell? ⟨aQ, 2, none⟩ = some (aN) := (blk_cell aA.out 2).trans rfl
              have fQ := blk_frozen aA.out 2
              have dE := aI.out
              have dF := aR.out
              refine skip_ (w1 := ?_) (by rfl) rfl ?_ ?_
              rotate_left
              · go_simp
                rfl
              refine hK.out _ _ ?_
              clear hK K
              refine done_ (done_of hT.out (by kernel_rfl)) ?_
              try go_wp2
              go_roundg k6
              case measure => have := bN.out; have := bI.out; have := bM.out; have := bT.out; have := dA.out; have := fW.out; omega
              case rel => exact ⟨(wrap64 (aH + 1)), (bW), (.slice dC bW.length cS), rs_, H', ⟨by have := bN.out; have := bI.out; have := bM.out; have := bT.out; have := dA.out; have := fW.out; omega⟩, ⟨by (with_reducible repeat (first | apply Kd.S_alloc | apply Kd.S_drewN | apply Kd.S_drew)); exact Kd.S_mono (Kd.S_far (p := ⟨aQ, 2, none⟩) (Kd.S_types bV.out aA.out (by decide)) (fun _ hk => hk.2) (.slice dC bW.length cS)) (fun _ hk => trivial)⟩, ⟨by (with_reducible repeat (first | refine blk_drewN ?_ _ | refine blk_drew ?_ | refine blk_alloc ?_ _)); refine blk_far ?_ aI.out _; (with_reducible repeat (first | refine blk_drewN ?_ _ | refine blk_drew ?_ | refine blk_alloc ?_ _)); exact aC.out⟩, ⟨by (with_reducible repeat (first | refine blk_drewN ?_ _ | refine blk_drew ?_ | refine blk_alloc ?_ _)); refine blk_put (cs := #[.int .i64 (l0.length : Int), .int .i64 aE, aN]) ?_ 2 _ rfl; (with_reducible repeat (first | refine blk_drewN ?_ _ | refine blk_drew ?_ | refine blk_alloc ?_ _)); exact aA.out⟩, ⟨b2_ HB.out aG.out aJ.out⟩⟩
 ·
  replace c5 := Bool.eq_false_iff.mpr c5
  subst c5
  rw [if_neg (show ¬ (false = true) by decide)] at H
  simp only [Option.some.injEq, Prod.mk.injEq] at H
  obtain ⟨rfl, rfl, rfl⟩ := H
  go_enter Try.func17, Try.ntmps17
  go_wp2_with (first | ((with_reducible refine gate_dst (N := 6) rfl ?_); refine box_event rfl (N := 6) rfl (cs := #[.int .i64 0, .int .i64 0, .slice none 0 0]) (t := 27) hr_ ?_; intro aK hg gI hbox hb; have aC := q_ (hbox); have aG := ge_ hg (be_ HB.out); replace HB := q_ (below_step (be_ HB.out) hb); clear hb hbox hg) | ((with_reducible refine gate_callee (f := 41) rfl ?_); refine gl_ (some 12) Try.func41 #[.slice A0 l0.length c0] rfl al_ ?_; (with_reducible refine (spec_PairsOk.calls k _ _ l0 false _ ?side1 ?side2 A4.out).mono ?_); (case side1 => exact kc_ (Kd.C_below bU.out HB.out)); (case side2 => exact fE.out); rintro e gH ⟨rfl, hb⟩; refine ⟨_, rfl, ?_⟩; replace aC := q_ (bb_ aC.out hb); replace HB := q_ (below_step (bs_ HB.out aG.out) hb); (try clear hb); obtain ⟨dX, dW, dV, dI, dH, dG⟩ := bx3_ aC.out))
  refine bodyPost_ret (results_cell_row rfl _ _ aK 27 #[.int .i64 0, .int .i64 0, .slice none 0 0] (0, 0) _ rfl (by (with_reducible repeat (first | refine blk_drewN ?_ _ | refine blk_drew ?_ | refine blk_alloc ?_ _)); refine blk_put (cs := #[.int .i64 0, .int .i64 0, .slice none 0 0]) ?_ 2 _ rfl; (with_reducible repeat (first | refine blk_drewN ?_ _ | refine blk_drew ?_ | refine blk_alloc ?_ _)); refine blk_put (cs := #[.int .i64 0, .int .i64 0, .slice none 0 0]) ?_ 1 _ rfl; (with_reducible repeat (first | refine blk_drewN ?_ _ | refine blk_drew ?_ | refine blk_alloc ?_ _)); refine blk_put (cs := #[.int .i64 0, .int .i64 0, .slice none 0 0]) ?_ 0 _ rfl; (with_reducible repeat (first | refine blk_drewN ?_ _ | refine blk_drew ?_ | refine blk_alloc ?_ _)); exact aC.out) Try.underlying27 rfl (by kernel_rfl)) rfl ?_
  exact ⟨_, rf_, by first | exact Kd.S_nil _ _ _ _ _ | exact Kd.N_nil _ _ _ _ _ | exact Kd.V_nil _ _ _ _ _ | exact Kd.Q_nil _ _ _ _ _ | exact Kd.R_nil _ _ _ _ _, bs_ HB.out aG.out⟩
end Go.Proofs.Ytgmfhchhbidlnaa.P
